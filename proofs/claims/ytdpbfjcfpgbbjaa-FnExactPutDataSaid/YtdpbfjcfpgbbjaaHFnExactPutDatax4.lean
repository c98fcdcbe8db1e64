-- out of hprint.py, this session's own program over the kit's print (see NOTES.md); Lean checks it
import Derived.Test.YtdpbfjcfpgbbjaaHFnExactPutDatax0
import Derived.Test.YtdpbfjcfpgbbjaaHFnExactPutDatax3
namespace Go.Proofs.Ytdpbfjcfpgbbjaa.HFnExactPutData
open Go.RowKit Go.Proofs.YtdpbfjcfpgbbjaaW.PrintWords Go.Proofs.YtdpbfjcfpgbbjaaW.PrintLast Go.Proofs.YtdpbfjcfpgbbjaaW.PrintMore
attribute [local go_sem] max2_int min2_int max_two min_two max_three min_three max_four min_four   -- for this text's walks alone
set_option linter.unusedVariables false
set_option linter.unusedSimpArgs false

/-! ### impl_isSize: function 72 -/
def impl_isSize.f (a0 : Int) : Option (Bool) := if a0 = 1 then (some true) else (some (a0 == 2))
set_option maxHeartbeats 8000000 in
set_option maxRecDepth 100000 in
theorem impl_isSize.calls (a0 : Int) (r : Bool) (w : World) (h : impl_isSize.f a0 = some r) :
    Calls Try.prog 72 #[.int .i64 a0] w fun e w' => e = .returned (.bool r) ∧ Drawn0 w w' := by
  have H : (if a0 = 1 then (some true) else (some (a0 == 2))) = some r := h
  clear h
  by_cases c2 : a0 = 1
  · rw [if_pos c2] at H
    have c2b0 : (a0 == 1) = true := beq_iff_eq.mpr c2
    have c2b1 : (a0 != 1) = false := bne_eq_false_iff_eq.mpr c2
    clear c2
    obtain rfl := Option.some.inj H
    go_enter Try.func72, Try.ntmps72
    go_wp2
    go_ret
    exact ⟨by first | rfl | (simp; done) | (simp [*]; done), by repeat (first | exact Drawn0.refl _ | apply Drawn0.step)⟩
  · rw [if_neg c2] at H
    have c2b0 : (a0 == 1) = false := beq_eq_false_iff_ne.mpr c2
    have c2b1 : (a0 != 1) = true := bne_iff_ne.mpr c2
    obtain rfl := Option.some.inj H
    go_enter Try.func72, Try.ntmps72
    go_wp2
    go_ret
    exact ⟨by first | rfl | (simp; done) | (simp [*]; done), by repeat (first | exact Drawn0.refl _ | apply Drawn0.step)⟩

/-! ### impl_limitOf: function 94 -/
def impl_limitOf.f (a0 : Int) : Option (Int) := if 0 ≤ (wrap64 (8 * a0)) then (some (shl .i64 1 (wrap64 (8 * a0)))) else (none)
set_option maxHeartbeats 8000000 in
set_option maxRecDepth 100000 in
theorem impl_limitOf.calls (a0 : Int) (r : Int) (w : World) (h : impl_limitOf.f a0 = some r) :
    Calls Try.prog 94 #[.int .i64 a0] w fun e w' => e = .returned (.int .i64 r) ∧ Drawn0 w w' := by
  have H : (if 0 ≤ (wrap64 (8 * a0)) then (some (shl .i64 1 (wrap64 (8 * a0)))) else (none)) = some r := h
  clear h
  obtain ⟨ji2, hji2⟩ : ∃ j_ : Int, (wrap64 (8 * a0)) = j_ := ⟨_, rfl⟩
  replace H : (if 0 ≤ (ji2) then (some (shl .i64 1 (ji2))) else (none)) = some r := by first | (rw [hji2] at H; exact H) | (simp only [hji2] at H ⊢; exact H)
  have hji2w : (IntKind.i64.wrap (8 * a0)) = ji2 := (i64_w _).trans hji2
  by_cases c3 : 0 ≤ (ji2)
  · rw [if_pos c3] at H
    have c3b0 := eq_true c3
    have c3b1 : decide (0 ≤ (ji2)) = true := decide_eq_true c3
    clear c3
    obtain ⟨ji4, hji4⟩ : ∃ j_ : Int, (shl .i64 1 (ji2)) = j_ := ⟨_, rfl⟩
    replace H : (some ji4) = some r := by first | (rw [hji4] at H; exact H) | (simp only [hji4] at H ⊢; exact H)
    have hji4_ : (IntKind.i64.wrap (1 * 2 ^ min (ji2).toNat 64)) = ji4 := hji4
    have hji4z : (ji2) ≤ 64 → (IntKind.i64.wrap (1 * 2 ^ (ji2).toNat)) = ji4 := shl_small hji4
    have hji4u : (IntKind.i64.wrap (2 ^ min (ji2).toNat 64)) = ji4 := by have h_ := hji4_; rw [Int.one_mul] at h_; exact h_
    have hji4v : (ji2) ≤ 64 → (IntKind.i64.wrap (2 ^ (ji2).toNat)) = ji4 := fun hle_ => by have h_ := hji4z hle_; rw [Int.one_mul] at h_; exact h_
    have hji4y : (wrap64 (1 * 2 ^ min (ji2).toNat 64)) = ji4 := (i64_w _).symm.trans hji4_
    have hji4x : (ji2) ≤ 64 → (wrap64 (1 * 2 ^ (ji2).toNat)) = ji4 := fun h_ => (i64_w _).symm.trans (hji4z h_)
    obtain rfl := Option.some.inj H
    go_enter Try.func94, Try.ntmps94
    go_wp2
    go_ret
    exact ⟨by first | rfl | (simp; done) | (simp only [← hji2, ← hji4] <;> (first | rfl | simp)) | (simp [*]; done), by repeat (first | exact Drawn0.refl _ | apply Drawn0.step)⟩
  · rw [if_neg c3] at H
    exact absurd H (by simp)

/-! ### impl_isValue: function 59 -/
def impl_isValue.f (a0 : Int) (a1 : Int) : Option (Bool) := (impl_isSize.f a0).bind fun t213 => (if t213 = true then ((impl_limitOf.f a0).bind fun t214 => ((impl_within.f a1 0 (wrap64 (t214 - 1))).bind fun t215 => (some t215))) else (some false))
set_option maxHeartbeats 8000000 in
set_option maxRecDepth 100000 in
theorem impl_isValue.calls (a0 : Int) (a1 : Int) (r : Bool) (w : World) (h : impl_isValue.f a0 a1 = some r) :
    Calls Try.prog 59 #[.int .i64 a0, .int .i64 a1] w fun e w' => e = .returned (.bool r) ∧ Drawn0 w w' := by
  have H : ((impl_isSize.f a0).bind fun t213 => (if t213 = true then ((impl_limitOf.f a0).bind fun t214 => ((impl_within.f a1 0 (wrap64 (t214 - 1))).bind fun t215 => (some t215))) else (some false))) = some r := h
  clear h
  replace H := Option.bind_eq_some_iff.mp H
  obtain ⟨t213, A30, H⟩ := H
  replace H : (if t213 = true then ((impl_limitOf.f a0).bind fun t214 => ((impl_within.f a1 0 (wrap64 (t214 - 1))).bind fun t215 => (some t215))) else (some false)) = some r := H
  have A3 := Aside0.mk A30
  clear A30
  by_cases c4 : t213 = true
  · subst c4
    have H1 : ((impl_limitOf.f a0).bind fun t214 => ((impl_within.f a1 0 (wrap64 (t214 - 1))).bind fun t215 => (some t215))) = some r := by rw [if_pos rfl] at H; exact H
    clear H
    have H := H1
    clear H1
    replace H := Option.bind_eq_some_iff.mp H
    obtain ⟨t214, A50, H⟩ := H
    replace H : ((impl_within.f a1 0 (wrap64 (t214 - 1))).bind fun t215 => (some t215)) = some r := H
    have A5 := Aside0.mk A50
    clear A50
    replace H := Option.bind_eq_some_iff.mp H
    obtain ⟨t215, A60, H⟩ := H
    replace H : (some t215) = some r := H
    have A6 := Aside0.mk A60
    clear A60
    obtain rfl := Option.some.inj H
    go_enter Try.func59, Try.ntmps59
    go_wp2_with (first | ((with_reducible refine gate_callee (f := 72) rfl ?_); refine goesL_ (some 6) rfl rfl Try.func72 (by kernel_rfl) rfl #[.int .i64 a0] rfl (by (try simp only [List.map_toArray, List.map_cons, List.map_nil]); first | done | rfl | (simp only [List.length_drop, List.length_take]; rfl)) ?_; (with_reducible refine (impl_isSize.calls a0 true _ A3.out).mono ?_); rintro e w' ⟨rfl, ⟨nd, rfl⟩⟩; refine ⟨_, rfl, ?_⟩) | (go_at_call 94; (with_reducible refine (impl_limitOf.calls a0 t214 _ A5.out).mono ?_); rintro e w' ⟨rfl, ⟨nd, rfl⟩⟩) | (go_at_call 51; (with_reducible refine (impl_within.calls a1 0 (wrap64 (t214 - 1)) t215 _ A6.out).mono ?_); rintro e w' ⟨rfl, ⟨nd, rfl⟩⟩))
    go_ret
    exact ⟨by first | rfl | (simp; done) | (simp [*]; done), by repeat (first | exact Drawn0.refl _ | apply Drawn0.step)⟩
  · replace c4 := Bool.eq_false_iff.mpr c4
    subst c4
    have H1 : (some false) = some r := by rw [if_neg (show ¬ (false = true) by decide)] at H; exact H
    clear H
    have H := H1
    clear H1
    obtain rfl := Option.some.inj H
    go_enter Try.func59, Try.ntmps59
    go_wp2_with (first | ((with_reducible refine gate_callee (f := 72) rfl ?_); refine goesL_ (some 6) rfl rfl Try.func72 (by kernel_rfl) rfl #[.int .i64 a0] rfl (by (try simp only [List.map_toArray, List.map_cons, List.map_nil]); first | done | rfl | (simp only [List.length_drop, List.length_take]; rfl)) ?_; (with_reducible refine (impl_isSize.calls a0 false _ A3.out).mono ?_); rintro e w' ⟨rfl, ⟨nd, rfl⟩⟩; refine ⟨_, rfl, ?_⟩))
    go_ret
    exact ⟨by first | rfl | (simp; done) | (simp [*]; done), by repeat (first | exact Drawn0.refl _ | apply Drawn0.step)⟩

-- NOT PRINTED: function 60 (impl_Regs_putData)

/-! ### impl_PutData: function 20 -/
theorem impl_PutData.far {W w' : World} {g base t : Nat} {cells : Array Value} {ok : Nat → Prop} {u v : Value} {l : List Int} (hk : W.heap[g]? = some (.cells cells t (0, 0))) (ht : 3 ≠ t) (h : Kd.R (Kd.int .i64) 3 W base ok v l) (hok : ∀ k, ok k → some k ≠ u.ownBlock) (hs : ∀ k, k ≠ g → some k ≠ u.ownBlock → w'.heap[k]? = W.heap[k]?) : Kd.R (Kd.int .i64) 3 w' base ok v l :=
  Kd.R_mono (Kd.R_move (Kd.R_types h hk (fun q hq => by rcases List.mem_cons.1 hq with rfl | hq; exact ht; exact absurd hq (by simp [Kd.int, Kd.scalar]))) (fun k hk' => hs k hk'.2 (hok k hk'.1))) (fun _ hk' => hk'.1)
theorem impl_PutData.same {W w' : World} {base : Nat} {ok : Nat → Prop} {v : Value} {l : List Int} (h : Kd.R (Kd.int .i64) 3 W base ok v l) (hs : ∀ k, v.ownBlock = some k → w'.heap[k]? = W.heap[k]?) : Kd.R (Kd.int .i64) 3 w' base ok v l :=
  Kd.R_mono (Kd.R_move (Kd.R_tight rfl h) (fun k hk => hs k hk.symm)) (fun k hk => h.1 k hk.symm)
set_option maxHeartbeats 4000000 in
set_option maxRecDepth 100000 in
theorem impl_PutData.put (g : Nat) (v0 v1 : Value) (l0 l1 : List Int) (x2 x3 x4 x5 : Int) (x6 x7 : Bool) (size reg v : Int) (B base : Nat) (W : World) (hB : B ≤ g) (hBb : B ≤ base)
    (hk : W.heap[g]? = some (.cells #[v0, v1, .int .i64 x2, .int .i64 x3, .int .i64 x4, .int .i64 x5, .bool x6, .bool x7] 34 (0, 0)))
    (h0 : Kd.R (Kd.int .i64) 3 W base (fun k_ => some k_ ≠ v1.ownBlock) v0 l0) (h1 : Kd.R (Kd.int .i64) 3 W base (fun k_ => some k_ ≠ v0.ownBlock) v1 l1) (r0 : 0 ≤ reg) (r1 : reg < (l0.length : Int)) :
    Calls Try.prog 60 #[.pointer (some ⟨g, 0, none⟩), .int .i64 size, .int .i64 reg, .int .i64 v] W fun e w' => e = .returned (.tuple #[]) ∧ w'.heap[g]? = some (.cells #[v0, v1, .int .i64 x2, .int .i64 x3, .int .i64 x4, .int .i64 x5, .bool x6, .bool x7] 34 (0, 0)) ∧
      Kd.R (Kd.int .i64) 3 w' base (fun k_ => some k_ ≠ v1.ownBlock) v0 (l0.set reg.toNat (if size = 1 then Go.bits .or .i64 v (Go.bits .andNot .i64 (rd l0 reg) 255) else v)) ∧ Kd.R (Kd.int .i64) 3 w' base (fun k_ => some k_ ≠ v0.ownBlock) v1 l1 ∧ Below B W w' := by
  have hu := Try.underlying34
  obtain ⟨ga, c1, rfl, hga, hgl, hty⟩ := Kd.R_form h0 (by omega)
  have hne : g ≠ ga := by
    rintro rfl
    obtain ⟨cells, hcs⟩ := hty
    rw [hk] at hcs
    injection hcs with hcs
    injection hcs with _ ht
    cases ht
  have hne' : ga ≠ g := Ne.symm hne
  obtain ⟨hy, hyf⟩ := Kd.R_celln 0 h0 reg (by omega) (by omega)
  have hp := fun x => Kd.R_putn h0 reg x
  have q0 : W.cell? ⟨g, 0, none⟩ = some (.slice (some ⟨ga, 0, none⟩) l0.length c1) := (blk_cell hk 0).trans rfl
  have f := blk_frozen hk
  have y1 : W.cell? ⟨ga, reg.toNat, none⟩ = some (.int .i64 (rd l0 reg)) := hy
  have y2 : W.frozen? ⟨ga, reg.toNat, none⟩ = false := hyf
  have H0 := Aside0.mk hp
  have H1 := Aside0.mk h1
  have HK := Aside0.mk hk
  clear h0 h1 hp hk hy hyf hty
  by_cases c : size = 1
  · subst c
    rw [if_pos rfl]
    go_enter Try.func60, Try.ntmps60
    go_wp2
    refine bodyPost_end (v := .tuple #[]) (by simp [results, Try.results60, go_sem]) rfl ?_
    refine ⟨rfl, ?_, ?_, ?_, ?_⟩
    · exact blk_far HK.out hne _
    · exact H0.out _
    · refine impl_PutData.far (u := .slice (some ⟨ga, 0, none⟩) l0.length c1) HK.out (by decide) H1.out (fun _ h => h) (fun k hkg hku => ?_)
      exact Below.heap_setCell _ _ _ _ (fun e => hku (by rw [e]; rfl))
    · exact (Below.refl B W).setCell (show B ≤ ga by omega) _
  · rw [if_neg c]
    have c' : (size == 1) = false := beq_eq_false_iff_ne.2 c
    go_enter Try.func60, Try.ntmps60
    go_wp2
    refine bodyPost_end (v := .tuple #[]) (by simp [results, Try.results60, go_sem]) rfl ?_
    refine ⟨rfl, ?_, ?_, ?_, ?_⟩
    · exact blk_far HK.out hne _
    · exact H0.out _
    · refine impl_PutData.far (u := .slice (some ⟨ga, 0, none⟩) l0.length c1) HK.out (by decide) H1.out (fun _ h => h) (fun k hkg hku => ?_)
      exact Below.heap_setCell _ _ _ _ (fun e => hku (by rw [e]; rfl))
    · exact (Below.refl B W).setCell (show B ≤ ga by omega) _
def impl_PutData.f (l0_0 : List Int) (l0_1 : List Int) (a0_2 : Int) (a0_3 : Int) (a0_4 : Int) (a0_5 : Int) (a0_6 : Bool) (a0_7 : Bool) (a1 : Int) (a2 : Int) (a3 : Int) : Option (List Int × List Int × Int × Int × Int × Int × Bool × Bool × Bool) := (impl_GoodRegs.f l0_0 l0_1 a0_2 a0_3 a0_4 a0_5 a0_6 a0_7).bind fun t => (if t = true then ((impl_within.f a2 0 3).bind fun u0 => (if u0 = true then ((impl_isValue.f a1 a3).bind fun u1 => (if u1 = true then ((impl_ownRegs.f l0_0 l0_1 a0_2 a0_3 a0_4 a0_5 a0_6 a0_7).bind fun o => (if 0 ≤ a2 ∧ a2 < (o.1.length : Int) then (some (o.1.set a2.toNat (if a1 = 1 then Go.bits .or .i64 a3 (Go.bits .andNot .i64 (rd o.1 a2) 255) else a3), o.2.1, o.2.2.1, o.2.2.2.1, o.2.2.2.2.1, o.2.2.2.2.2.1, o.2.2.2.2.2.2.1, o.2.2.2.2.2.2.2, true)) else none)) else (some (([] : List Int), ([] : List Int), 0, 0, 0, 0, false, false, false)))) else (some (([] : List Int), ([] : List Int), 0, 0, 0, 0, false, false, false)))) else (some (([] : List Int), ([] : List Int), 0, 0, 0, 0, false, false, false)))
set_option maxHeartbeats 4000000 in
set_option maxRecDepth 100000 in
theorem impl_PutData.calls (A0_0 : Option Addr) (c0_0 : Nat) (l0_0 : List Int) (A0_1 : Option Addr) (c0_1 : Nat) (l0_1 : List Int) (a0_2 : Int) (a0_3 : Int) (a0_4 : Int) (a0_5 : Int) (a0_6 : Bool) (a0_7 : Bool) (a1 : Int) (a2 : Int) (a3 : Int) (r1 : List Int) (r2 : List Int) (r3 : Int) (r4 : Int) (r5 : Int) (r6 : Int) (r7 : Bool) (r8 : Bool) (r9 : Bool)  (w : World) (hr0_0 : Kd.C (Kd.int .i64) w A0_0 l0_0.length l0_0) (hc0_0 : l0_0.length ≤ c0_0) (hr0_1 : Kd.C (Kd.int .i64) w A0_1 l0_1.length l0_1) (hc0_1 : l0_1.length ≤ c0_1) (h : impl_PutData.f l0_0 l0_1 a0_2 a0_3 a0_4 a0_5 a0_6 a0_7 a1 a2 a3 = some (r1, r2, r3, r4, r5, r6, r7, r8, r9)) :
    Calls Try.prog 20 #[.agg #[.slice A0_0 l0_0.length c0_0, .slice A0_1 l0_1.length c0_1, .int .i64 a0_2, .int .i64 a0_3, .int .i64 a0_4, .int .i64 a0_5, .bool a0_6, .bool a0_7], .int .i64 a1, .int .i64 a2, .int .i64 a3] w fun e w' => ∃ v0_ v1_ : Value, e = .returned (.tuple #[.agg #[v0_, v1_, .int .i64 r3, .int .i64 r4, .int .i64 r5, .int .i64 r6, .bool r7, .bool r8], .bool r9]) ∧ Kd.R (Kd.int .i64) 3 w' w.heap.size (fun k_ => some k_ ≠ (v1_ : Value).ownBlock) v0_ r1 ∧ Kd.R (Kd.int .i64) 3 w' w.heap.size (fun k_ => some k_ ≠ (v0_ : Value).ownBlock) v1_ r2 ∧ Below w.heap.size w w' := by
  have hu := Try.underlying34
  unfold impl_PutData.f at h
  obtain ⟨t, A0, H⟩ := Option.bind_eq_some_iff.mp h
  clear h
  have HG := Aside0.mk (fun (W : World) (hb : Below w.heap.size w W) => impl_GoodRegs.calls A0_0 c0_0 l0_0 A0_1 c0_1 l0_1 a0_2 a0_3 a0_4 a0_5 a0_6 a0_7 t W (Kd.C_below hr0_0 hb) hc0_0 (Kd.C_below hr0_1 hb) hc0_1 A0)
  have HO := Aside0.mk (fun r1 r2 r3 r4 r5 r6 r7 r8 (W : World) (hb : Below w.heap.size w W) h => impl_ownRegs.calls A0_0 c0_0 l0_0 A0_1 c0_1 l0_1 a0_2 a0_3 a0_4 a0_5 a0_6 a0_7 r1 r2 r3 r4 r5 r6 r7 r8 W (Kd.C_below hr0_0 hb) hc0_0 (Kd.C_below hr0_1 hb) hc0_1 h)
  clear hr0_0 hc0_0 hr0_1 hc0_1 A0
  cases t with
  | false =>
    clear HO
    simp only [Bool.false_eq_true, if_false, Option.some.injEq, Prod.mk.injEq] at H
    obtain ⟨rfl, rfl, rfl, rfl, rfl, rfl, rfl, rfl, rfl⟩ := H
    go_enter Try.func20, Try.ntmps20
    go_wp2_with (first | (go_at_call 50; refine (HG.out _ ?hB).mono ?_; (case hB => repeat (with_reducible first | exact Below.refl _ _ | apply below_alloc | apply pw_below_drewN | apply below_drew1)); rintro e w2 ⟨rfl, hb2⟩; have hB2 := Aside0.mk (below_step (w := w) (by repeat (with_reducible first | exact Below.refl _ _ | apply below_alloc)) hb2); have hk_p := (show w2.heap[w.heap.size]? = some (.cells #[.slice A0_0 l0_0.length c0_0, .slice A0_1 l0_1.length c0_1, .int .i64 a0_2, .int .i64 a0_3, .int .i64 a0_4, .int .i64 a0_5, .bool a0_6, .bool a0_7] 34 (0, 0)) from blk_below (by (with_reducible repeat (first | refine blk_drewN ?_ _ | refine blk_drew ?_)); refine blk_alloc ?_ _; have h_ := blk_new w (.cells #[.slice A0_0 l0_0.length c0_0, .slice A0_1 l0_1.length c0_1, .int .i64 a0_2, .int .i64 a0_3, .int .i64 a0_4, .int .i64 a0_5, .bool a0_6, .bool a0_7] 34 (0, 0)); simpa using h_) hb2); have hk_q := (show w2.heap[w.heap.size + 1]? = some (.cells #[.slice none 0 0, .slice none 0 0, .int .i64 0, .int .i64 0, .int .i64 0, .int .i64 0, .bool false, .bool false] 34 (0, 0)) from blk_below (by (with_reducible repeat (first | refine blk_drewN ?_ _ | refine blk_drew ?_)); have h_ := blk_new (w.alloc (.cells #[.slice A0_0 l0_0.length c0_0, .slice A0_1 l0_1.length c0_1, .int .i64 a0_2, .int .i64 a0_3, .int .i64 a0_4, .int .i64 a0_5, .bool a0_6, .bool a0_7] 34 (0, 0))) (.cells #[.slice none 0 0, .slice none 0 0, .int .i64 0, .int .i64 0, .int .i64 0, .int .i64 0, .bool false, .bool false] 34 (0, 0)); simpa using h_) hb2); have p0 : w2.cell? ⟨w.heap.size, 0, none⟩ = some (.slice A0_0 l0_0.length c0_0) := (blk_cell hk_p 0).trans rfl; have fp0 := blk_frozen hk_p 0; have p1 : w2.cell? ⟨w.heap.size, 1, none⟩ = some (.slice A0_1 l0_1.length c0_1) := (blk_cell hk_p 1).trans rfl; have fp1 := blk_frozen hk_p 1; have p2 : w2.cell? ⟨w.heap.size, 2, none⟩ = some (.int .i64 a0_2) := (blk_cell hk_p 2).trans rfl; have fp2 := blk_frozen hk_p 2; have p3 : w2.cell? ⟨w.heap.size, 3, none⟩ = some (.int .i64 a0_3) := (blk_cell hk_p 3).trans rfl; have fp3 := blk_frozen hk_p 3; have p4 : w2.cell? ⟨w.heap.size, 4, none⟩ = some (.int .i64 a0_4) := (blk_cell hk_p 4).trans rfl; have fp4 := blk_frozen hk_p 4; have p5 : w2.cell? ⟨w.heap.size, 5, none⟩ = some (.int .i64 a0_5) := (blk_cell hk_p 5).trans rfl; have fp5 := blk_frozen hk_p 5; have p6 : w2.cell? ⟨w.heap.size, 6, none⟩ = some (.bool a0_6) := (blk_cell hk_p 6).trans rfl; have fp6 := blk_frozen hk_p 6; have p7 : w2.cell? ⟨w.heap.size, 7, none⟩ = some (.bool a0_7) := (blk_cell hk_p 7).trans rfl; have fp7 := blk_frozen hk_p 7; have q0 : w2.cell? ⟨w.heap.size + 1, 0, none⟩ = some (.slice none 0 0) := (blk_cell hk_q 0).trans rfl; have fq0 := blk_frozen hk_q 0; have q1 : w2.cell? ⟨w.heap.size + 1, 1, none⟩ = some (.slice none 0 0) := (blk_cell hk_q 1).trans rfl; have fq1 := blk_frozen hk_q 1; have q2 : w2.cell? ⟨w.heap.size + 1, 2, none⟩ = some (.int .i64 0) := (blk_cell hk_q 2).trans rfl; have fq2 := blk_frozen hk_q 2; have q3 : w2.cell? ⟨w.heap.size + 1, 3, none⟩ = some (.int .i64 0) := (blk_cell hk_q 3).trans rfl; have fq3 := blk_frozen hk_q 3; have q4 : w2.cell? ⟨w.heap.size + 1, 4, none⟩ = some (.int .i64 0) := (blk_cell hk_q 4).trans rfl; have fq4 := blk_frozen hk_q 4; have q5 : w2.cell? ⟨w.heap.size + 1, 5, none⟩ = some (.int .i64 0) := (blk_cell hk_q 5).trans rfl; have fq5 := blk_frozen hk_q 5; have q6 : w2.cell? ⟨w.heap.size + 1, 6, none⟩ = some (.bool false) := (blk_cell hk_q 6).trans rfl; have fq6 := blk_frozen hk_q 6; have q7 : w2.cell? ⟨w.heap.size + 1, 7, none⟩ = some (.bool false) := (blk_cell hk_q 7).trans rfl; have fq7 := blk_frozen hk_q 7; have hz2 : w.heap.size + 1 < w2.heap.size := blk_lt hk_q; clear hb2) | go_in)
    refine bodyPost_ret (v := .tuple #[.agg #[.slice none 0 0, .slice none 0 0, .int .i64 0, .int .i64 0, .int .i64 0, .int .i64 0, .bool false, .bool false], .bool false]) (by simp [results, Try.results20, go_sem, q0, fq0, q1, fq1, q2, fq2, q3, fq3, q4, fq4, q5, fq5, q6, fq6, q7, fq7]) rfl ⟨.slice none 0 0, .slice none 0 0, rfl, Kd.R_nil _ _ _ _ _, Kd.R_nil _ _ _ _ _, ?_⟩
    repeat (first | (with_reducible first | apply below_alloc | apply pw_below_drewN | apply below_drew1) | refine below_set ?_ (by simp) | refine below_set ?_ (by omega))
    exact hB2.out
  | true =>
    rw [if_pos rfl] at H
    obtain ⟨u0, U0, H⟩ := Option.bind_eq_some_iff.mp H
    have HU0 := Aside0.mk (fun W => impl_within.calls a2 0 3 u0 W U0)
    cases u0 with
    | false =>
      clear HO U0
      simp only [Bool.false_eq_true, if_false, Option.some.injEq, Prod.mk.injEq] at H
      obtain ⟨rfl, rfl, rfl, rfl, rfl, rfl, rfl, rfl, rfl⟩ := H
      go_enter Try.func20, Try.ntmps20
      go_wp2_with (first | (go_at_call 50; refine (HG.out _ ?hB).mono ?_; (case hB => repeat (with_reducible first | exact Below.refl _ _ | apply below_alloc | apply pw_below_drewN | apply below_drew1)); rintro e w2 ⟨rfl, hb2⟩; have hB2 := Aside0.mk (below_step (w := w) (by repeat (with_reducible first | exact Below.refl _ _ | apply below_alloc)) hb2); have hk_p := (show w2.heap[w.heap.size]? = some (.cells #[.slice A0_0 l0_0.length c0_0, .slice A0_1 l0_1.length c0_1, .int .i64 a0_2, .int .i64 a0_3, .int .i64 a0_4, .int .i64 a0_5, .bool a0_6, .bool a0_7] 34 (0, 0)) from blk_below (by (with_reducible repeat (first | refine blk_drewN ?_ _ | refine blk_drew ?_)); refine blk_alloc ?_ _; have h_ := blk_new w (.cells #[.slice A0_0 l0_0.length c0_0, .slice A0_1 l0_1.length c0_1, .int .i64 a0_2, .int .i64 a0_3, .int .i64 a0_4, .int .i64 a0_5, .bool a0_6, .bool a0_7] 34 (0, 0)); simpa using h_) hb2); have hk_q := (show w2.heap[w.heap.size + 1]? = some (.cells #[.slice none 0 0, .slice none 0 0, .int .i64 0, .int .i64 0, .int .i64 0, .int .i64 0, .bool false, .bool false] 34 (0, 0)) from blk_below (by (with_reducible repeat (first | refine blk_drewN ?_ _ | refine blk_drew ?_)); have h_ := blk_new (w.alloc (.cells #[.slice A0_0 l0_0.length c0_0, .slice A0_1 l0_1.length c0_1, .int .i64 a0_2, .int .i64 a0_3, .int .i64 a0_4, .int .i64 a0_5, .bool a0_6, .bool a0_7] 34 (0, 0))) (.cells #[.slice none 0 0, .slice none 0 0, .int .i64 0, .int .i64 0, .int .i64 0, .int .i64 0, .bool false, .bool false] 34 (0, 0)); simpa using h_) hb2); have p0 : w2.cell? ⟨w.heap.size, 0, none⟩ = some (.slice A0_0 l0_0.length c0_0) := (blk_cell hk_p 0).trans rfl; have fp0 := blk_frozen hk_p 0; have p1 : w2.cell? ⟨w.heap.size, 1, none⟩ = some (.slice A0_1 l0_1.length c0_1) := (blk_cell hk_p 1).trans rfl; have fp1 := blk_frozen hk_p 1; have p2 : w2.cell? ⟨w.heap.size, 2, none⟩ = some (.int .i64 a0_2) := (blk_cell hk_p 2).trans rfl; have fp2 := blk_frozen hk_p 2; have p3 : w2.cell? ⟨w.heap.size, 3, none⟩ = some (.int .i64 a0_3) := (blk_cell hk_p 3).trans rfl; have fp3 := blk_frozen hk_p 3; have p4 : w2.cell? ⟨w.heap.size, 4, none⟩ = some (.int .i64 a0_4) := (blk_cell hk_p 4).trans rfl; have fp4 := blk_frozen hk_p 4; have p5 : w2.cell? ⟨w.heap.size, 5, none⟩ = some (.int .i64 a0_5) := (blk_cell hk_p 5).trans rfl; have fp5 := blk_frozen hk_p 5; have p6 : w2.cell? ⟨w.heap.size, 6, none⟩ = some (.bool a0_6) := (blk_cell hk_p 6).trans rfl; have fp6 := blk_frozen hk_p 6; have p7 : w2.cell? ⟨w.heap.size, 7, none⟩ = some (.bool a0_7) := (blk_cell hk_p 7).trans rfl; have fp7 := blk_frozen hk_p 7; have q0 : w2.cell? ⟨w.heap.size + 1, 0, none⟩ = some (.slice none 0 0) := (blk_cell hk_q 0).trans rfl; have fq0 := blk_frozen hk_q 0; have q1 : w2.cell? ⟨w.heap.size + 1, 1, none⟩ = some (.slice none 0 0) := (blk_cell hk_q 1).trans rfl; have fq1 := blk_frozen hk_q 1; have q2 : w2.cell? ⟨w.heap.size + 1, 2, none⟩ = some (.int .i64 0) := (blk_cell hk_q 2).trans rfl; have fq2 := blk_frozen hk_q 2; have q3 : w2.cell? ⟨w.heap.size + 1, 3, none⟩ = some (.int .i64 0) := (blk_cell hk_q 3).trans rfl; have fq3 := blk_frozen hk_q 3; have q4 : w2.cell? ⟨w.heap.size + 1, 4, none⟩ = some (.int .i64 0) := (blk_cell hk_q 4).trans rfl; have fq4 := blk_frozen hk_q 4; have q5 : w2.cell? ⟨w.heap.size + 1, 5, none⟩ = some (.int .i64 0) := (blk_cell hk_q 5).trans rfl; have fq5 := blk_frozen hk_q 5; have q6 : w2.cell? ⟨w.heap.size + 1, 6, none⟩ = some (.bool false) := (blk_cell hk_q 6).trans rfl; have fq6 := blk_frozen hk_q 6; have q7 : w2.cell? ⟨w.heap.size + 1, 7, none⟩ = some (.bool false) := (blk_cell hk_q 7).trans rfl; have fq7 := blk_frozen hk_q 7; have hz2 : w.heap.size + 1 < w2.heap.size := blk_lt hk_q; clear hb2) | (go_at_call 51; (with_reducible refine (HU0.out _).mono ?_); rintro e w_ ⟨rfl, ⟨nd0, rfl⟩⟩) | go_in)
      refine bodyPost_ret (v := .tuple #[.agg #[.slice none 0 0, .slice none 0 0, .int .i64 0, .int .i64 0, .int .i64 0, .int .i64 0, .bool false, .bool false], .bool false]) (by simp [results, Try.results20, go_sem, q0, fq0, q1, fq1, q2, fq2, q3, fq3, q4, fq4, q5, fq5, q6, fq6, q7, fq7]) rfl ⟨.slice none 0 0, .slice none 0 0, rfl, Kd.R_nil _ _ _ _ _, Kd.R_nil _ _ _ _ _, ?_⟩
      repeat (first | (with_reducible first | apply below_alloc | apply pw_below_drewN | apply below_drew1) | refine below_set ?_ (by simp) | refine below_set ?_ (by omega))
      exact hB2.out
    | true =>
      rw [if_pos rfl] at H
      obtain ⟨u1, U1, H⟩ := Option.bind_eq_some_iff.mp H
      have HU1 := Aside0.mk (fun W => impl_isValue.calls a1 a3 u1 W U1)
      cases u1 with
      | false =>
        clear HO U0 U1
        simp only [Bool.false_eq_true, if_false, Option.some.injEq, Prod.mk.injEq] at H
        obtain ⟨rfl, rfl, rfl, rfl, rfl, rfl, rfl, rfl, rfl⟩ := H
        go_enter Try.func20, Try.ntmps20
        go_wp2_with (first | (go_at_call 50; refine (HG.out _ ?hB).mono ?_; (case hB => repeat (with_reducible first | exact Below.refl _ _ | apply below_alloc | apply pw_below_drewN | apply below_drew1)); rintro e w2 ⟨rfl, hb2⟩; have hB2 := Aside0.mk (below_step (w := w) (by repeat (with_reducible first | exact Below.refl _ _ | apply below_alloc)) hb2); have hk_p := (show w2.heap[w.heap.size]? = some (.cells #[.slice A0_0 l0_0.length c0_0, .slice A0_1 l0_1.length c0_1, .int .i64 a0_2, .int .i64 a0_3, .int .i64 a0_4, .int .i64 a0_5, .bool a0_6, .bool a0_7] 34 (0, 0)) from blk_below (by (with_reducible repeat (first | refine blk_drewN ?_ _ | refine blk_drew ?_)); refine blk_alloc ?_ _; have h_ := blk_new w (.cells #[.slice A0_0 l0_0.length c0_0, .slice A0_1 l0_1.length c0_1, .int .i64 a0_2, .int .i64 a0_3, .int .i64 a0_4, .int .i64 a0_5, .bool a0_6, .bool a0_7] 34 (0, 0)); simpa using h_) hb2); have hk_q := (show w2.heap[w.heap.size + 1]? = some (.cells #[.slice none 0 0, .slice none 0 0, .int .i64 0, .int .i64 0, .int .i64 0, .int .i64 0, .bool false, .bool false] 34 (0, 0)) from blk_below (by (with_reducible repeat (first | refine blk_drewN ?_ _ | refine blk_drew ?_)); have h_ := blk_new (w.alloc (.cells #[.slice A0_0 l0_0.length c0_0, .slice A0_1 l0_1.length c0_1, .int .i64 a0_2, .int .i64 a0_3, .int .i64 a0_4, .int .i64 a0_5, .bool a0_6, .bool a0_7] 34 (0, 0))) (.cells #[.slice none 0 0, .slice none 0 0, .int .i64 0, .int .i64 0, .int .i64 0, .int .i64 0, .bool false, .bool false] 34 (0, 0)); simpa using h_) hb2); have p0 : w2.cell? ⟨w.heap.size, 0, none⟩ = some (.slice A0_0 l0_0.length c0_0) := (blk_cell hk_p 0).trans rfl; have fp0 := blk_frozen hk_p 0; have p1 : w2.cell? ⟨w.heap.size, 1, none⟩ = some (.slice A0_1 l0_1.length c0_1) := (blk_cell hk_p 1).trans rfl; have fp1 := blk_frozen hk_p 1; have p2 : w2.cell? ⟨w.heap.size, 2, none⟩ = some (.int .i64 a0_2) := (blk_cell hk_p 2).trans rfl; have fp2 := blk_frozen hk_p 2; have p3 : w2.cell? ⟨w.heap.size, 3, none⟩ = some (.int .i64 a0_3) := (blk_cell hk_p 3).trans rfl; have fp3 := blk_frozen hk_p 3; have p4 : w2.cell? ⟨w.heap.size, 4, none⟩ = some (.int .i64 a0_4) := (blk_cell hk_p 4).trans rfl; have fp4 := blk_frozen hk_p 4; have p5 : w2.cell? ⟨w.heap.size, 5, none⟩ = some (.int .i64 a0_5) := (blk_cell hk_p 5).trans rfl; have fp5 := blk_frozen hk_p 5; have p6 : w2.cell? ⟨w.heap.size, 6, none⟩ = some (.bool a0_6) := (blk_cell hk_p 6).trans rfl; have fp6 := blk_frozen hk_p 6; have p7 : w2.cell? ⟨w.heap.size, 7, none⟩ = some (.bool a0_7) := (blk_cell hk_p 7).trans rfl; have fp7 := blk_frozen hk_p 7; have q0 : w2.cell? ⟨w.heap.size + 1, 0, none⟩ = some (.slice none 0 0) := (blk_cell hk_q 0).trans rfl; have fq0 := blk_frozen hk_q 0; have q1 : w2.cell? ⟨w.heap.size + 1, 1, none⟩ = some (.slice none 0 0) := (blk_cell hk_q 1).trans rfl; have fq1 := blk_frozen hk_q 1; have q2 : w2.cell? ⟨w.heap.size + 1, 2, none⟩ = some (.int .i64 0) := (blk_cell hk_q 2).trans rfl; have fq2 := blk_frozen hk_q 2; have q3 : w2.cell? ⟨w.heap.size + 1, 3, none⟩ = some (.int .i64 0) := (blk_cell hk_q 3).trans rfl; have fq3 := blk_frozen hk_q 3; have q4 : w2.cell? ⟨w.heap.size + 1, 4, none⟩ = some (.int .i64 0) := (blk_cell hk_q 4).trans rfl; have fq4 := blk_frozen hk_q 4; have q5 : w2.cell? ⟨w.heap.size + 1, 5, none⟩ = some (.int .i64 0) := (blk_cell hk_q 5).trans rfl; have fq5 := blk_frozen hk_q 5; have q6 : w2.cell? ⟨w.heap.size + 1, 6, none⟩ = some (.bool false) := (blk_cell hk_q 6).trans rfl; have fq6 := blk_frozen hk_q 6; have q7 : w2.cell? ⟨w.heap.size + 1, 7, none⟩ = some (.bool false) := (blk_cell hk_q 7).trans rfl; have fq7 := blk_frozen hk_q 7; have hz2 : w.heap.size + 1 < w2.heap.size := blk_lt hk_q; clear hb2) | (go_at_call 51; (with_reducible refine (HU0.out _).mono ?_); rintro e w_ ⟨rfl, ⟨nd0, rfl⟩⟩) | (go_at_call 59; (with_reducible refine (HU1.out _).mono ?_); rintro e w_ ⟨rfl, ⟨nd1, rfl⟩⟩) | go_in)
        refine bodyPost_ret (v := .tuple #[.agg #[.slice none 0 0, .slice none 0 0, .int .i64 0, .int .i64 0, .int .i64 0, .int .i64 0, .bool false, .bool false], .bool false]) (by simp [results, Try.results20, go_sem, q0, fq0, q1, fq1, q2, fq2, q3, fq3, q4, fq4, q5, fq5, q6, fq6, q7, fq7]) rfl ⟨.slice none 0 0, .slice none 0 0, rfl, Kd.R_nil _ _ _ _ _, Kd.R_nil _ _ _ _ _, ?_⟩
        repeat (first | (with_reducible first | apply below_alloc | apply pw_below_drewN | apply below_drew1) | refine below_set ?_ (by simp) | refine below_set ?_ (by omega))
        exact hB2.out
      | true =>
        rw [if_pos rfl] at H
        obtain ⟨o, A2, H⟩ := Option.bind_eq_some_iff.mp H
        obtain ⟨o1, o2, o3, o4, o5, o6, o7, o8⟩ := o
        have HO2 := Aside0.mk (fun (W : World) (hb : Below w.heap.size w W) => HO.out o1 o2 o3 o4 o5 o6 o7 o8 W hb A2)
        clear HO
        by_cases g : 0 ≤ a2 ∧ a2 < (o1.length : Int)
        · rw [if_pos g] at H
          have g0 := Aside0.mk g.1
          have g1 := Aside0.mk g.2
          clear g
          obtain ⟨nv, hnv⟩ : ∃ x, x = (if a1 = 1 then Go.bits .or .i64 a3 (Go.bits .andNot .i64 (rd o1 a2) 255) else a3) := ⟨_, rfl⟩
          have HM := fun (g : Nat) (V0 V1 : Value) (B base : Nat) (W : World) m1 m2 m3 m4 m5 => impl_PutData.put g V0 V1 o1 o2 o3 o4 o5 o6 o7 o8 a1 a2 a3 B base W m1 m2 m3 m4 m5 g0.out g1.out
          simp only [← hnv] at HM H
          replace HM := Aside0.mk HM
          clear hnv
          simp only [Option.some.injEq, Prod.mk.injEq] at H
          obtain ⟨rfl, rfl, rfl, rfl, rfl, rfl, rfl, rfl, rfl⟩ := H
          go_enter Try.func20, Try.ntmps20
          go_wp2_with (first | (go_at_call 50; refine (HG.out _ ?hB).mono ?_; (case hB => repeat (with_reducible first | exact Below.refl _ _ | apply below_alloc | apply pw_below_drewN | apply below_drew1)); rintro e w2 ⟨rfl, hb2⟩; have hB2 := Aside0.mk (below_step (w := w) (by repeat (with_reducible first | exact Below.refl _ _ | apply below_alloc)) hb2); have hk_p := (show w2.heap[w.heap.size]? = some (.cells #[.slice A0_0 l0_0.length c0_0, .slice A0_1 l0_1.length c0_1, .int .i64 a0_2, .int .i64 a0_3, .int .i64 a0_4, .int .i64 a0_5, .bool a0_6, .bool a0_7] 34 (0, 0)) from blk_below (by (with_reducible repeat (first | refine blk_drewN ?_ _ | refine blk_drew ?_)); refine blk_alloc ?_ _; have h_ := blk_new w (.cells #[.slice A0_0 l0_0.length c0_0, .slice A0_1 l0_1.length c0_1, .int .i64 a0_2, .int .i64 a0_3, .int .i64 a0_4, .int .i64 a0_5, .bool a0_6, .bool a0_7] 34 (0, 0)); simpa using h_) hb2); have hk_q := (show w2.heap[w.heap.size + 1]? = some (.cells #[.slice none 0 0, .slice none 0 0, .int .i64 0, .int .i64 0, .int .i64 0, .int .i64 0, .bool false, .bool false] 34 (0, 0)) from blk_below (by (with_reducible repeat (first | refine blk_drewN ?_ _ | refine blk_drew ?_)); have h_ := blk_new (w.alloc (.cells #[.slice A0_0 l0_0.length c0_0, .slice A0_1 l0_1.length c0_1, .int .i64 a0_2, .int .i64 a0_3, .int .i64 a0_4, .int .i64 a0_5, .bool a0_6, .bool a0_7] 34 (0, 0))) (.cells #[.slice none 0 0, .slice none 0 0, .int .i64 0, .int .i64 0, .int .i64 0, .int .i64 0, .bool false, .bool false] 34 (0, 0)); simpa using h_) hb2); have p0 : w2.cell? ⟨w.heap.size, 0, none⟩ = some (.slice A0_0 l0_0.length c0_0) := (blk_cell hk_p 0).trans rfl; have fp0 := blk_frozen hk_p 0; have p1 : w2.cell? ⟨w.heap.size, 1, none⟩ = some (.slice A0_1 l0_1.length c0_1) := (blk_cell hk_p 1).trans rfl; have fp1 := blk_frozen hk_p 1; have p2 : w2.cell? ⟨w.heap.size, 2, none⟩ = some (.int .i64 a0_2) := (blk_cell hk_p 2).trans rfl; have fp2 := blk_frozen hk_p 2; have p3 : w2.cell? ⟨w.heap.size, 3, none⟩ = some (.int .i64 a0_3) := (blk_cell hk_p 3).trans rfl; have fp3 := blk_frozen hk_p 3; have p4 : w2.cell? ⟨w.heap.size, 4, none⟩ = some (.int .i64 a0_4) := (blk_cell hk_p 4).trans rfl; have fp4 := blk_frozen hk_p 4; have p5 : w2.cell? ⟨w.heap.size, 5, none⟩ = some (.int .i64 a0_5) := (blk_cell hk_p 5).trans rfl; have fp5 := blk_frozen hk_p 5; have p6 : w2.cell? ⟨w.heap.size, 6, none⟩ = some (.bool a0_6) := (blk_cell hk_p 6).trans rfl; have fp6 := blk_frozen hk_p 6; have p7 : w2.cell? ⟨w.heap.size, 7, none⟩ = some (.bool a0_7) := (blk_cell hk_p 7).trans rfl; have fp7 := blk_frozen hk_p 7; have q0 : w2.cell? ⟨w.heap.size + 1, 0, none⟩ = some (.slice none 0 0) := (blk_cell hk_q 0).trans rfl; have fq0 := blk_frozen hk_q 0; have q1 : w2.cell? ⟨w.heap.size + 1, 1, none⟩ = some (.slice none 0 0) := (blk_cell hk_q 1).trans rfl; have fq1 := blk_frozen hk_q 1; have q2 : w2.cell? ⟨w.heap.size + 1, 2, none⟩ = some (.int .i64 0) := (blk_cell hk_q 2).trans rfl; have fq2 := blk_frozen hk_q 2; have q3 : w2.cell? ⟨w.heap.size + 1, 3, none⟩ = some (.int .i64 0) := (blk_cell hk_q 3).trans rfl; have fq3 := blk_frozen hk_q 3; have q4 : w2.cell? ⟨w.heap.size + 1, 4, none⟩ = some (.int .i64 0) := (blk_cell hk_q 4).trans rfl; have fq4 := blk_frozen hk_q 4; have q5 : w2.cell? ⟨w.heap.size + 1, 5, none⟩ = some (.int .i64 0) := (blk_cell hk_q 5).trans rfl; have fq5 := blk_frozen hk_q 5; have q6 : w2.cell? ⟨w.heap.size + 1, 6, none⟩ = some (.bool false) := (blk_cell hk_q 6).trans rfl; have fq6 := blk_frozen hk_q 6; have q7 : w2.cell? ⟨w.heap.size + 1, 7, none⟩ = some (.bool false) := (blk_cell hk_q 7).trans rfl; have fq7 := blk_frozen hk_q 7; have hz2 : w.heap.size + 1 < w2.heap.size := blk_lt hk_q; clear hb2) | (go_at_call 51; (with_reducible refine (HU0.out _).mono ?_); rintro e w_ ⟨rfl, ⟨nd0, rfl⟩⟩) | (go_at_call 59; (with_reducible refine (HU1.out _).mono ?_); rintro e w_ ⟨rfl, ⟨nd1, rfl⟩⟩) | (go_at_call 52; refine (HO2.out _ ?hB).mono ?_; (case hB => repeat (first | (with_reducible first | apply below_alloc | apply pw_below_drewN | apply below_drew1) | exact hB2.out)); rintro e w4 ⟨v0, v1, rfl, hv0, hv1, hb4⟩; obtain ⟨V0, n0, rfl⟩ := Kd.R_slice hv0; obtain ⟨V1, n1, rfl⟩ := Kd.R_slice hv1; replace hv0 := Aside0.mk (Kd.R_lower (base' := w.heap.size + 2) hv0 (by simp; omega)); replace hv1 := Aside0.mk (Kd.R_lower (base' := w.heap.size + 2) hv1 (by simp; omega)); replace hB2 := Aside0.mk (below_step (w := w) (by repeat (first | (with_reducible first | apply below_alloc | apply pw_below_drewN | apply below_drew1) | exact hB2.out)) hb4); clear p0 fp0 p1 fp1 p2 fp2 p3 fp3 p4 fp4 p5 fp5 p6 fp6 p7 fp7; replace hk_p := (show w4.heap[w.heap.size]? = some (.cells #[.slice A0_0 l0_0.length c0_0, .slice A0_1 l0_1.length c0_1, .int .i64 a0_2, .int .i64 a0_3, .int .i64 a0_4, .int .i64 a0_5, .bool a0_6, .bool a0_7] 34 (0, 0)) from blk_below (by (with_reducible repeat (first | refine blk_drewN ?_ _ | refine blk_drew ?_ | refine blk_alloc ?_ _)); exact hk_p) hb4); clear q0 fq0 q1 fq1 q2 fq2 q3 fq3 q4 fq4 q5 fq5 q6 fq6 q7 fq7; replace hk_q := (show w4.heap[w.heap.size + 1]? = some (.cells #[.slice none 0 0, .slice none 0 0, .int .i64 0, .int .i64 0, .int .i64 0, .int .i64 0, .bool false, .bool false] 34 (0, 0)) from blk_below (by (with_reducible repeat (first | refine blk_drewN ?_ _ | refine blk_drew ?_ | refine blk_alloc ?_ _)); exact hk_q) hb4); have p0 : w4.cell? ⟨w.heap.size, 0, none⟩ = some (.slice A0_0 l0_0.length c0_0) := (blk_cell hk_p 0).trans rfl; have fp0 := blk_frozen hk_p 0; have p1 : w4.cell? ⟨w.heap.size, 1, none⟩ = some (.slice A0_1 l0_1.length c0_1) := (blk_cell hk_p 1).trans rfl; have fp1 := blk_frozen hk_p 1; have p2 : w4.cell? ⟨w.heap.size, 2, none⟩ = some (.int .i64 a0_2) := (blk_cell hk_p 2).trans rfl; have fp2 := blk_frozen hk_p 2; have p3 : w4.cell? ⟨w.heap.size, 3, none⟩ = some (.int .i64 a0_3) := (blk_cell hk_p 3).trans rfl; have fp3 := blk_frozen hk_p 3; have p4 : w4.cell? ⟨w.heap.size, 4, none⟩ = some (.int .i64 a0_4) := (blk_cell hk_p 4).trans rfl; have fp4 := blk_frozen hk_p 4; have p5 : w4.cell? ⟨w.heap.size, 5, none⟩ = some (.int .i64 a0_5) := (blk_cell hk_p 5).trans rfl; have fp5 := blk_frozen hk_p 5; have p6 : w4.cell? ⟨w.heap.size, 6, none⟩ = some (.bool a0_6) := (blk_cell hk_p 6).trans rfl; have fp6 := blk_frozen hk_p 6; have p7 : w4.cell? ⟨w.heap.size, 7, none⟩ = some (.bool a0_7) := (blk_cell hk_p 7).trans rfl; have fp7 := blk_frozen hk_p 7; have q0 : w4.cell? ⟨w.heap.size + 1, 0, none⟩ = some (.slice none 0 0) := (blk_cell hk_q 0).trans rfl; have fq0 := blk_frozen hk_q 0; have q1 : w4.cell? ⟨w.heap.size + 1, 1, none⟩ = some (.slice none 0 0) := (blk_cell hk_q 1).trans rfl; have fq1 := blk_frozen hk_q 1; have q2 : w4.cell? ⟨w.heap.size + 1, 2, none⟩ = some (.int .i64 0) := (blk_cell hk_q 2).trans rfl; have fq2 := blk_frozen hk_q 2; have q3 : w4.cell? ⟨w.heap.size + 1, 3, none⟩ = some (.int .i64 0) := (blk_cell hk_q 3).trans rfl; have fq3 := blk_frozen hk_q 3; have q4 : w4.cell? ⟨w.heap.size + 1, 4, none⟩ = some (.int .i64 0) := (blk_cell hk_q 4).trans rfl; have fq4 := blk_frozen hk_q 4; have q5 : w4.cell? ⟨w.heap.size + 1, 5, none⟩ = some (.int .i64 0) := (blk_cell hk_q 5).trans rfl; have fq5 := blk_frozen hk_q 5; have q6 : w4.cell? ⟨w.heap.size + 1, 6, none⟩ = some (.bool false) := (blk_cell hk_q 6).trans rfl; have fq6 := blk_frozen hk_q 6; have q7 : w4.cell? ⟨w.heap.size + 1, 7, none⟩ = some (.bool false) := (blk_cell hk_q 7).trans rfl; have fq7 := blk_frozen hk_q 7; replace hz2 : w.heap.size + 1 < w4.heap.size := blk_lt hk_q; clear hb4) | (go_at_call 60; refine (HM.out w4.heap.size (.slice V0 o1.length n0) (.slice V1 o2.length n1) (w.heap.size + 2) (w.heap.size + 2) _ ?m1 ?m2 ?m3 ?m4 ?m5 ).mono ?_; (case m1 => omega); (case m2 => exact Nat.le_refl _); (case m3 => (with_reducible repeat (first | refine blk_drewN ?_ _ | refine blk_drew ?_)); exact blk_new _ _); (case m4 => exact Kd.R_below hv0.out (by repeat (first | (with_reducible first | exact Below.refl _ _ | apply below_alloc | apply pw_below_drewN | apply below_drew1) | refine below_set ?_ (Nat.le_refl _)))); (case m5 => exact Kd.R_below hv1.out (by repeat (first | (with_reducible first | exact Below.refl _ _ | apply below_alloc | apply pw_below_drewN | apply below_drew1) | refine below_set ?_ (Nat.le_refl _)))); rintro e w6 ⟨rfl, hk_r, h06, h16, hb6⟩; replace hB2 := Aside0.mk (below_weaken (w0 := w) (by repeat (first | (with_reducible first | apply below_alloc | apply pw_below_drewN | apply below_drew1) | refine below_set ?_ (by omega) | exact hB2.out)) (by omega) hb6); replace hv0 := Aside0.mk h06; replace hv1 := Aside0.mk h16; clear h06 h16; clear p0 fp0 p1 fp1 p2 fp2 p3 fp3 p4 fp4 p5 fp5 p6 fp6 p7 fp7; clear q0 fq0 q1 fq1 q2 fq2 q3 fq3 q4 fq4 q5 fq5 q6 fq6 q7 fq7; replace hk_q := ((hb6.block _ (by omega)).trans (by repeat (first | (with_reducible first | refine blk_drewN ?_ _ | refine blk_drew ?_ | refine blk_alloc ?_ _) | refine blk_far ?_ (by omega) _ | exact hk_q)) : w6.heap[w.heap.size + 1]? = some (.cells #[.slice none 0 0, .slice none 0 0, .int .i64 0, .int .i64 0, .int .i64 0, .int .i64 0, .bool false, .bool false] 34 (0, 0))); have q0 : w6.cell? ⟨w.heap.size + 1, 0, none⟩ = some (.slice none 0 0) := (blk_cell hk_q 0).trans rfl; have fq0 := blk_frozen hk_q 0; have q1 : w6.cell? ⟨w.heap.size + 1, 1, none⟩ = some (.slice none 0 0) := (blk_cell hk_q 1).trans rfl; have fq1 := blk_frozen hk_q 1; have q2 : w6.cell? ⟨w.heap.size + 1, 2, none⟩ = some (.int .i64 0) := (blk_cell hk_q 2).trans rfl; have fq2 := blk_frozen hk_q 2; have q3 : w6.cell? ⟨w.heap.size + 1, 3, none⟩ = some (.int .i64 0) := (blk_cell hk_q 3).trans rfl; have fq3 := blk_frozen hk_q 3; have q4 : w6.cell? ⟨w.heap.size + 1, 4, none⟩ = some (.int .i64 0) := (blk_cell hk_q 4).trans rfl; have fq4 := blk_frozen hk_q 4; have q5 : w6.cell? ⟨w.heap.size + 1, 5, none⟩ = some (.int .i64 0) := (blk_cell hk_q 5).trans rfl; have fq5 := blk_frozen hk_q 5; have q6 : w6.cell? ⟨w.heap.size + 1, 6, none⟩ = some (.bool false) := (blk_cell hk_q 6).trans rfl; have fq6 := blk_frozen hk_q 6; have q7 : w6.cell? ⟨w.heap.size + 1, 7, none⟩ = some (.bool false) := (blk_cell hk_q 7).trans rfl; have fq7 := blk_frozen hk_q 7; have r0 : w6.cell? ⟨w4.heap.size, 0, none⟩ = some (.slice V0 o1.length n0) := (blk_cell hk_r 0).trans rfl; have fr0 := blk_frozen hk_r 0; have r1 : w6.cell? ⟨w4.heap.size, 1, none⟩ = some (.slice V1 o2.length n1) := (blk_cell hk_r 1).trans rfl; have fr1 := blk_frozen hk_r 1; have r2 : w6.cell? ⟨w4.heap.size, 2, none⟩ = some (.int .i64 o3) := (blk_cell hk_r 2).trans rfl; have fr2 := blk_frozen hk_r 2; have r3 : w6.cell? ⟨w4.heap.size, 3, none⟩ = some (.int .i64 o4) := (blk_cell hk_r 3).trans rfl; have fr3 := blk_frozen hk_r 3; have r4 : w6.cell? ⟨w4.heap.size, 4, none⟩ = some (.int .i64 o5) := (blk_cell hk_r 4).trans rfl; have fr4 := blk_frozen hk_r 4; have r5 : w6.cell? ⟨w4.heap.size, 5, none⟩ = some (.int .i64 o6) := (blk_cell hk_r 5).trans rfl; have fr5 := blk_frozen hk_r 5; have r6 : w6.cell? ⟨w4.heap.size, 6, none⟩ = some (.bool o7) := (blk_cell hk_r 6).trans rfl; have fr6 := blk_frozen hk_r 6; have r7 : w6.cell? ⟨w4.heap.size, 7, none⟩ = some (.bool o8) := (blk_cell hk_r 7).trans rfl; have fr7 := blk_frozen hk_r 7; have hz6 : w4.heap.size < w6.heap.size := blk_lt hk_r; clear hb6) | go_in)
          refine bodyPost_ret (v := .tuple #[.agg #[.slice V0 o1.length n0, .slice V1 o2.length n1, .int .i64 o3, .int .i64 o4, .int .i64 o5, .int .i64 o6, .bool o7, .bool o8], .bool true]) (by simp [results, Try.results20, go_sem, q0, fq0, q1, fq1, q2, fq2, q3, fq3, q4, fq4, q5, fq5, q6, fq6, q7, fq7]) rfl ⟨.slice V0 o1.length n0, .slice V1 o2.length n1, rfl, ?_, ?_, ?_⟩
          · exact Kd.R_lower (impl_PutData.same hv0.out (fun k hk => by have := Kd.R_base hv0.out k hk; repeat (first | rw [Below.heap_setCell _ _ _ _ (show k ≠ _ by (show k ≠ w.heap.size + 1); omega)] | rfl))) (by omega)
          · exact Kd.R_lower (impl_PutData.same hv1.out (fun k hk => by have := Kd.R_base hv1.out k hk; repeat (first | rw [Below.heap_setCell _ _ _ _ (show k ≠ _ by (show k ≠ w.heap.size + 1); omega)] | rfl))) (by omega)
          · repeat (first | (with_reducible first | apply below_alloc | apply pw_below_drewN | apply below_drew1) | refine below_set ?_ (by omega))
            exact hB2.out
        · rw [if_neg g] at H
          exact absurd H (by simp)

-- NOT PRINTED: function 5 (laws_FnExactPutData)

end Go.Proofs.Ytdpbfjcfpgbbjaa.HFnExactPutData
