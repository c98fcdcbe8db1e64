-- out of hprint.py, this session's own program over the kit's print (see NOTES.md); Lean checks it
import Derived.Test.YtdpbfjcfpgbbjaaHFnExactPlaceOfx0
import Derived.Test.YtdpbfjcfpgbbjaaHFnExactPlaceOfx5
namespace Go.Proofs.Ytdpbfjcfpgbbjaa.HFnExactPlaceOf
open Go.RowKit Go.Proofs.YtdpbfjcfpgbbjaaW.PrintWords Go.Proofs.YtdpbfjcfpgbbjaaW.PrintLast Go.Proofs.YtdpbfjcfpgbbjaaW.PrintMore
attribute [local go_sem] max2_int min2_int max_two min_two max_three min_three max_four min_four   -- for this text's walks alone
set_option linter.unusedVariables false
set_option linter.unusedSimpArgs false

/-! ### impl_PlaceOf: function 28 -/
theorem impl_PlaceOf.far {W w' : World} {g base t : Nat} {cells : Array Value} {ok : Nat → Prop} {u v : Value} {l : List Int} (hk : W.heap[g]? = some (.cells cells t (0, 0))) (ht : 3 ≠ t) (h : Kd.R (Kd.int .i64) 3 W base ok v l) (hok : ∀ k, ok k → some k ≠ u.ownBlock) (hs : ∀ k, k ≠ g → some k ≠ u.ownBlock → w'.heap[k]? = W.heap[k]?) : Kd.R (Kd.int .i64) 3 w' base ok v l :=
  Kd.R_mono (Kd.R_move (Kd.R_types h hk (fun q hq => by rcases List.mem_cons.1 hq with rfl | hq; exact ht; exact absurd hq (by simp [Kd.int, Kd.scalar]))) (fun k hk' => hs k hk'.2 (hok k hk'.1))) (fun _ hk' => hk'.1)
theorem impl_PlaceOf.same {W w' : World} {base : Nat} {ok : Nat → Prop} {v : Value} {l : List Int} (h : Kd.R (Kd.int .i64) 3 W base ok v l) (hs : ∀ k, v.ownBlock = some k → w'.heap[k]? = W.heap[k]?) : Kd.R (Kd.int .i64) 3 w' base ok v l :=
  Kd.R_mono (Kd.R_move (Kd.R_tight rfl h) (fun k hk => hs k hk.symm)) (fun k hk => h.1 k hk.symm)
def impl_PlaceOf.T12 : Bool × List (List Nat × List Nat) := (true, [([], []), ([0], [0]), ([1], [1]), ([2], [2]), ([], []), ([4], [4]), ([], []), ([6], [6]), ([7], [7]), ([8], [8]), ([], []), ([10], [10]), ([9, 11], [9, 11]), ([12], [12]), ([], []), ([13, 14], [13, 14]), ([15], [15]), ([3, 5, 0, 1, 2, 3, 4, 5, 6, 7, 8, 9, 10, 11, 12, 13, 14, 15, 16], [3, 5]), ([17, 16, 0, 1, 2, 3, 4, 5, 6, 7, 8, 9, 10, 11, 12, 13, 14, 15, 16], [16, 17])])
def impl_PlaceOf.B12 : List Nat := [0, 1, 3, 7, 0, 16, 0, 64, 192, 448, 0, 1024, 4032, 8128, 0, 32704, 65472, 131071, 262143]
theorem impl_PlaceOf.tab12 : rtab .any (opsOf Try.f75 12) = impl_PlaceOf.T12 := by kernel_rfl
theorem impl_PlaceOf.bits12 : waitsOk impl_PlaceOf.T12.2 impl_PlaceOf.B12 = true := by kernel_rfl
set_option maxHeartbeats 4000000 in
set_option maxRecDepth 100000 in
theorem impl_PlaceOf.p2 (g : Nat) (v0 v1 : Value) (l0 l1 : List Int) (x2 x3 x4 x5 : Int) (x6 x7 : Bool) (size reg ext : Int) (B base : Nat) (W : World) (hB : B ≤ g) (hBb : B ≤ base)
    (hk : W.heap[g]? = some (.cells #[v0, v1, .int .i64 x2, .int .i64 x3, .int .i64 x4, .int .i64 x5, .bool x6, .bool x7] 34 (0, 0)))
    (h0 : Kd.R (Kd.int .i64) 3 W base (fun k_ => some k_ ≠ v1.ownBlock) v0 l0) (h1 : Kd.R (Kd.int .i64) 3 W base (fun k_ => some k_ ≠ v0.ownBlock) v1 l1) (r0 : 0 ≤ reg) (r1 : reg < (l1.length : Int)) :
    Calls Try.prog 75 #[.pointer (some ⟨g, 0, none⟩), .int .i64 size, .agg #[.int .i64 2, .int .i64 reg, .int .i64 ext]] W fun e w' => e = .returned (.int .i64 (rd l1 reg)) ∧ w'.heap[g]? = some (.cells #[v0, v1, .int .i64 x2, .int .i64 x3, .int .i64 x4, .int .i64 x5, .bool x6, .bool x7] 34 (0, 0)) ∧
      Kd.R (Kd.int .i64) 3 w' base (fun k_ => some k_ ≠ v1.ownBlock) v0 l0 ∧ Kd.R (Kd.int .i64) 3 w' base (fun k_ => some k_ ≠ v0.ownBlock) v1 l1 ∧ Below B W w' := by
  have hu := Try.underlying34
  have hu2 := Try.underlying23
  obtain ⟨ga, c1, rfl, hga, hgl, hty⟩ := Kd.R_form h1 (by omega)
  have hne : g ≠ ga := by
    rintro rfl
    obtain ⟨cells, hcs⟩ := hty
    rw [hk] at hcs
    injection hcs with hcs
    injection hcs with _ ht
    cases ht
  have hne' : ga ≠ g := Ne.symm hne
  obtain ⟨hy, hyf⟩ := Kd.R_celln 0 h1 reg r0 r1
  have q1 : W.cell? ⟨g, 1, none⟩ = some (.slice (some ⟨ga, 0, none⟩) l1.length c1) := (blk_cell hk 1).trans rfl
  have f := blk_frozen hk
  have y1 : W.cell? ⟨ga, reg.toNat, none⟩ = some (.int .i64 (rd l1 reg)) := hy
  have y2 : W.frozen? ⟨ga, reg.toNat, none⟩ = false := hyf
  have zg : g < W.heap.size := blk_lt hk
  have BB : ∀ W', Below W.heap.size W W' → Below B W W' := fun W' h => ⟨h.os, h.tape, h.output, h.size, fun i hi => h.block i (by omega)⟩
  have HBB := Aside0.mk BB
  have H0 := Aside0.mk h0
  have H1 := Aside0.mk h1
  have HK := Aside0.mk hk
  clear h0 h1 hk hy hyf hty BB
  have c0 := r0
  by_cases c3 : reg = 3
  · have c3' : (reg == 3) = true := beq_iff_eq.2 c3
    clear c3
    go_enter Try.func75, Try.ntmps75
    go_wp2
    obtain ⟨W1, hW1⟩ : ∃ X, X = W.alloc (.cells #[.int .i64 2, .int .i64 reg, .int .i64 ext] 23 (0, 0)) := ⟨_, rfl⟩
    have o1 : W1.cell? ⟨W.heap.size, 1, none⟩ = some (.int .i64 reg) := by rw [hW1]; simp
    have o2 : W1.cell? ⟨W.heap.size, 2, none⟩ = some (.int .i64 ext) := by rw [hW1]; simp
    have zz : W1.heap.size = W.heap.size + 1 := by rw [hW1]; simp
    have hb1 : Below W.heap.size W W1 := by rw [hW1]; exact below_alloc (Below.refl _ _) _
    rw [← hW1]
    clear hW1
    replace q1 : W1.cell? ⟨g, 1, none⟩ = some (.slice (some ⟨ga, 0, none⟩) l1.length c1) := pw_cell_below hb1 q1
    replace y1 : W1.cell? ⟨ga, reg.toNat, none⟩ = some (.int .i64 (rd l1 reg)) := pw_cell_below hb1 y1
    replace y2 : W1.frozen? ⟨ga, reg.toNat, none⟩ = false := (hb1.frozen (p := ⟨ga, reg.toNat, none⟩) hgl).trans y2
    have HB1 := Aside0.mk hb1
    clear hb1
    have nz : ga ≠ W.heap.size := by omega
    have nz' : W.heap.size ≠ ga := by omega
    go_region_held3 (fun w' => w'.cell? ⟨g, 1, none⟩ = some (.slice (some ⟨ga, 0, none⟩) l1.length c1) ∧ w'.cell? ⟨W.heap.size, 1, none⟩ = some (.int .i64 reg) ∧ w'.cell? ⟨W.heap.size, 2, none⟩ = some (.int .i64 ext) ∧ w'.cell? ⟨ga, reg.toNat, none⟩ = some (.int .i64 (rd l1 reg))) (go_keep) (fail)
    go_wp2
    go_ret
    have hb : Below W.heap.size W W1.drew := by (repeat (with_reducible first | apply below_drew | apply pw_below_drewN)); exact HB1.out
    exact ⟨rfl, blk_below HK.out hb, Kd.R_below H0.out hb, Kd.R_below H1.out hb, HBB.out _ hb⟩
  · have c3' : (reg == 3) = false := beq_eq_false_iff_ne.2 c3
    go_enter Try.func75, Try.ntmps75
    go_wp2
    obtain ⟨W1, hW1⟩ : ∃ X, X = W.alloc (.cells #[.int .i64 2, .int .i64 reg, .int .i64 ext] 23 (0, 0)) := ⟨_, rfl⟩
    have o1 : W1.cell? ⟨W.heap.size, 1, none⟩ = some (.int .i64 reg) := by rw [hW1]; simp
    have o2 : W1.cell? ⟨W.heap.size, 2, none⟩ = some (.int .i64 ext) := by rw [hW1]; simp
    have zz : W1.heap.size = W.heap.size + 1 := by rw [hW1]; simp
    have hb1 : Below W.heap.size W W1 := by rw [hW1]; exact below_alloc (Below.refl _ _) _
    rw [← hW1]
    clear hW1
    replace q1 : W1.cell? ⟨g, 1, none⟩ = some (.slice (some ⟨ga, 0, none⟩) l1.length c1) := pw_cell_below hb1 q1
    replace y1 : W1.cell? ⟨ga, reg.toNat, none⟩ = some (.int .i64 (rd l1 reg)) := pw_cell_below hb1 y1
    replace y2 : W1.frozen? ⟨ga, reg.toNat, none⟩ = false := (hb1.frozen (p := ⟨ga, reg.toNat, none⟩) hgl).trans y2
    have HB1 := Aside0.mk hb1
    clear hb1
    have nz : ga ≠ W.heap.size := by omega
    have nz' : W.heap.size ≠ ga := by omega
    go_region_held3 (fun w' => w'.cell? ⟨g, 1, none⟩ = some (.slice (some ⟨ga, 0, none⟩) l1.length c1) ∧ w'.cell? ⟨W.heap.size, 1, none⟩ = some (.int .i64 reg) ∧ w'.cell? ⟨W.heap.size, 2, none⟩ = some (.int .i64 ext) ∧ w'.cell? ⟨ga, reg.toNat, none⟩ = some (.int .i64 (rd l1 reg))) (go_keep) (fail)
    go_wp2
    go_ret
    have hb : Below W.heap.size W W1.drew := by (repeat (with_reducible first | apply below_drew | apply pw_below_drewN)); exact HB1.out
    exact ⟨rfl, blk_below HK.out hb, Kd.R_below H0.out hb, Kd.R_below H1.out hb, HBB.out _ hb⟩
set_option maxHeartbeats 4000000 in
set_option maxRecDepth 100000 in
theorem impl_PlaceOf.p3 (g : Nat) (v0 v1 : Value) (l0 l1 : List Int) (x2 x3 x4 x5 : Int) (x6 x7 : Bool) (size reg ext nb : Int) (B base : Nat) (W : World) (hB : B ≤ g) (hBb : B ≤ base)
    (hk : W.heap[g]? = some (.cells #[v0, v1, .int .i64 x2, .int .i64 x3, .int .i64 x4, .int .i64 x5, .bool x6, .bool x7] 34 (0, 0)))
    (h0 : Kd.R (Kd.int .i64) 3 W base (fun k_ => some k_ ≠ v1.ownBlock) v0 l0) (h1 : Kd.R (Kd.int .i64) 3 W base (fun k_ => some k_ ≠ v0.ownBlock) v1 l1) (r0 : 0 ≤ reg) (r1 : reg < (l1.length : Int)) (hn : reg = 3 ∧ 2 = nb ∨ reg ≠ 3 ∧ size = nb) :
    Calls Try.prog 75 #[.pointer (some ⟨g, 0, none⟩), .int .i64 size, .agg #[.int .i64 3, .int .i64 reg, .int .i64 ext]] W fun e w' => e = .returned (.int .i64 (rd l1 reg)) ∧ w'.heap[g]? = some (.cells #[v0, v1, .int .i64 x2, .int .i64 x3, .int .i64 x4, .int .i64 x5, .bool x6, .bool x7] 34 (0, 0)) ∧
      Kd.R (Kd.int .i64) 3 w' base (fun k_ => some k_ ≠ v1.ownBlock) v0 l0 ∧ Kd.R (Kd.int .i64) 3 w' base (fun k_ => some k_ ≠ v0.ownBlock) v1 (l1.set reg.toNat (Go.bits .and .i64 (wrap64 (rd l1 reg + nb)) 65535)) ∧ Below B W w' := by
  have hu := Try.underlying34
  have hu2 := Try.underlying23
  obtain ⟨ga, c1, rfl, hga, hgl, hty⟩ := Kd.R_form h1 (by omega)
  have hne : g ≠ ga := by
    rintro rfl
    obtain ⟨cells, hcs⟩ := hty
    rw [hk] at hcs
    injection hcs with hcs
    injection hcs with _ ht
    cases ht
  have hne' : ga ≠ g := Ne.symm hne
  obtain ⟨hy, hyf⟩ := Kd.R_celln 0 h1 reg r0 r1
  have q1 : W.cell? ⟨g, 1, none⟩ = some (.slice (some ⟨ga, 0, none⟩) l1.length c1) := (blk_cell hk 1).trans rfl
  have f := blk_frozen hk
  have y1 : W.cell? ⟨ga, reg.toNat, none⟩ = some (.int .i64 (rd l1 reg)) := hy
  have y2 : W.frozen? ⟨ga, reg.toNat, none⟩ = false := hyf
  have zg : g < W.heap.size := blk_lt hk
  have BB : ∀ W', Below W.heap.size W W' → Below B W W' := fun W' h => ⟨h.os, h.tape, h.output, h.size, fun i hi => h.block i (by omega)⟩
  have HBB := Aside0.mk BB
  have H0 := Aside0.mk h0
  have H1 := Aside0.mk h1
  have HK := Aside0.mk hk
  clear h0 h1 hk hy hyf hty BB
  have hw : ∀ x : Int, IntKind.i64.wrap x = wrap64 x := i64_w
  have c0 := r0
  rcases hn with ⟨c3, rfl⟩ | ⟨c3, rfl⟩
  · have c3' : (reg == 3) = true := beq_iff_eq.2 c3
    clear c3
    go_enter Try.func75, Try.ntmps75
    go_wp2
    obtain ⟨W1, hW1⟩ : ∃ X, X = W.alloc (.cells #[.int .i64 3, .int .i64 reg, .int .i64 ext] 23 (0, 0)) := ⟨_, rfl⟩
    have o1 : W1.cell? ⟨W.heap.size, 1, none⟩ = some (.int .i64 reg) := by rw [hW1]; simp
    have o2 : W1.cell? ⟨W.heap.size, 2, none⟩ = some (.int .i64 ext) := by rw [hW1]; simp
    have zz : W1.heap.size = W.heap.size + 1 := by rw [hW1]; simp
    have hb1 : Below W.heap.size W W1 := by rw [hW1]; exact below_alloc (Below.refl _ _) _
    rw [← hW1]
    clear hW1
    replace q1 : W1.cell? ⟨g, 1, none⟩ = some (.slice (some ⟨ga, 0, none⟩) l1.length c1) := pw_cell_below hb1 q1
    replace y1 : W1.cell? ⟨ga, reg.toNat, none⟩ = some (.int .i64 (rd l1 reg)) := pw_cell_below hb1 y1
    replace y2 : W1.frozen? ⟨ga, reg.toNat, none⟩ = false := (hb1.frozen (p := ⟨ga, reg.toNat, none⟩) hgl).trans y2
    have HB1 := Aside0.mk hb1
    clear hb1
    have nz : ga ≠ W.heap.size := by omega
    have nz' : W.heap.size ≠ ga := by omega
    go_region_held3 (fun w' => w'.cell? ⟨g, 1, none⟩ = some (.slice (some ⟨ga, 0, none⟩) l1.length c1) ∧ w'.cell? ⟨W.heap.size, 1, none⟩ = some (.int .i64 reg) ∧ w'.cell? ⟨W.heap.size, 2, none⟩ = some (.int .i64 ext) ∧ w'.cell? ⟨ga, reg.toNat, none⟩ = some (.int .i64 (rd l1 reg))) (go_keep) (fail)
    go_wp2
    obtain ⟨W2, hW2⟩ : ∃ X, X = W1.drew := ⟨_, rfl⟩
    have hb2 : Below W.heap.size W W2 := by rw [hW2]; (repeat (with_reducible first | apply below_drew | apply pw_below_drewN)); exact HB1.out
    replace q1 : W2.cell? ⟨g, 1, none⟩ = some (.slice (some ⟨ga, 0, none⟩) l1.length c1) := by rw [hW2]; exact q1
    replace y1 : W2.cell? ⟨ga, reg.toNat, none⟩ = some (.int .i64 (rd l1 reg)) := by rw [hW2]; exact y1
    replace y2 : W2.frozen? ⟨ga, reg.toNat, none⟩ = false := by rw [hW2]; exact y2
    replace o1 : W2.cell? ⟨W.heap.size, 1, none⟩ = some (.int .i64 reg) := by rw [hW2]; exact o1
    replace o2 : W2.cell? ⟨W.heap.size, 2, none⟩ = some (.int .i64 ext) := by rw [hW2]; exact o2
    rw [← hW2]
    clear hW2
    have HB2 := Aside0.mk hb2
    clear hb2 HB1
    go_region_held3 (fun w' => w'.cell? ⟨g, 1, none⟩ = some (.slice (some ⟨ga, 0, none⟩) l1.length c1) ∧ w'.cell? ⟨W.heap.size, 1, none⟩ = some (.int .i64 reg)) (simp [*, World.cell?_setCell_far, World.cell?_setCell_other]) (fail)
    go_wp2
    try simp only [hw]
    go_ret
    have hb := HB2.out
    have hk2 := blk_below HK.out hb
    refine ⟨rfl, ?_, ?_, ?_, ?_⟩
    · (repeat (with_reducible refine blk_drew ?_)); exact blk_far hk2 hne _
    · refine impl_PlaceOf.far (u := .slice (some ⟨ga, 0, none⟩) l1.length c1) hk2 (by decide) (Kd.R_below H0.out hb) (fun _ h => h) (fun k hkg hku => ?_)
      exact Below.heap_setCell _ _ _ _ (fun e => hku (by rw [e]; rfl))
    · (repeat (with_reducible refine Kd.R_drew ?_)); exact Kd.R_putn (Kd.R_below H1.out hb) reg _
    · (repeat (with_reducible apply below_drew)); exact (HBB.out _ hb).setCell (show B ≤ ga by omega) _
  · have c3' : (reg == 3) = false := beq_eq_false_iff_ne.2 c3
    go_enter Try.func75, Try.ntmps75
    go_wp2
    obtain ⟨W1, hW1⟩ : ∃ X, X = W.alloc (.cells #[.int .i64 3, .int .i64 reg, .int .i64 ext] 23 (0, 0)) := ⟨_, rfl⟩
    have o1 : W1.cell? ⟨W.heap.size, 1, none⟩ = some (.int .i64 reg) := by rw [hW1]; simp
    have o2 : W1.cell? ⟨W.heap.size, 2, none⟩ = some (.int .i64 ext) := by rw [hW1]; simp
    have zz : W1.heap.size = W.heap.size + 1 := by rw [hW1]; simp
    have hb1 : Below W.heap.size W W1 := by rw [hW1]; exact below_alloc (Below.refl _ _) _
    rw [← hW1]
    clear hW1
    replace q1 : W1.cell? ⟨g, 1, none⟩ = some (.slice (some ⟨ga, 0, none⟩) l1.length c1) := pw_cell_below hb1 q1
    replace y1 : W1.cell? ⟨ga, reg.toNat, none⟩ = some (.int .i64 (rd l1 reg)) := pw_cell_below hb1 y1
    replace y2 : W1.frozen? ⟨ga, reg.toNat, none⟩ = false := (hb1.frozen (p := ⟨ga, reg.toNat, none⟩) hgl).trans y2
    have HB1 := Aside0.mk hb1
    clear hb1
    have nz : ga ≠ W.heap.size := by omega
    have nz' : W.heap.size ≠ ga := by omega
    go_region_held3 (fun w' => w'.cell? ⟨g, 1, none⟩ = some (.slice (some ⟨ga, 0, none⟩) l1.length c1) ∧ w'.cell? ⟨W.heap.size, 1, none⟩ = some (.int .i64 reg) ∧ w'.cell? ⟨W.heap.size, 2, none⟩ = some (.int .i64 ext) ∧ w'.cell? ⟨ga, reg.toNat, none⟩ = some (.int .i64 (rd l1 reg))) (go_keep) (fail)
    go_wp2
    obtain ⟨W2, hW2⟩ : ∃ X, X = W1.drew := ⟨_, rfl⟩
    have hb2 : Below W.heap.size W W2 := by rw [hW2]; (repeat (with_reducible first | apply below_drew | apply pw_below_drewN)); exact HB1.out
    replace q1 : W2.cell? ⟨g, 1, none⟩ = some (.slice (some ⟨ga, 0, none⟩) l1.length c1) := by rw [hW2]; exact q1
    replace y1 : W2.cell? ⟨ga, reg.toNat, none⟩ = some (.int .i64 (rd l1 reg)) := by rw [hW2]; exact y1
    replace y2 : W2.frozen? ⟨ga, reg.toNat, none⟩ = false := by rw [hW2]; exact y2
    replace o1 : W2.cell? ⟨W.heap.size, 1, none⟩ = some (.int .i64 reg) := by rw [hW2]; exact o1
    replace o2 : W2.cell? ⟨W.heap.size, 2, none⟩ = some (.int .i64 ext) := by rw [hW2]; exact o2
    rw [← hW2]
    clear hW2
    have HB2 := Aside0.mk hb2
    clear hb2 HB1
    go_region_held3 (fun w' => w'.cell? ⟨g, 1, none⟩ = some (.slice (some ⟨ga, 0, none⟩) l1.length c1) ∧ w'.cell? ⟨W.heap.size, 1, none⟩ = some (.int .i64 reg)) (simp [*, World.cell?_setCell_far, World.cell?_setCell_other]) (fail)
    go_wp2
    try simp only [hw]
    go_ret
    have hb := HB2.out
    have hk2 := blk_below HK.out hb
    refine ⟨rfl, ?_, ?_, ?_, ?_⟩
    · (repeat (with_reducible refine blk_drew ?_)); exact blk_far hk2 hne _
    · refine impl_PlaceOf.far (u := .slice (some ⟨ga, 0, none⟩) l1.length c1) hk2 (by decide) (Kd.R_below H0.out hb) (fun _ h => h) (fun k hkg hku => ?_)
      exact Below.heap_setCell _ _ _ _ (fun e => hku (by rw [e]; rfl))
    · (repeat (with_reducible refine Kd.R_drew ?_)); exact Kd.R_putn (Kd.R_below H1.out hb) reg _
    · (repeat (with_reducible apply below_drew)); exact (HBB.out _ hb).setCell (show B ≤ ga by omega) _
set_option maxHeartbeats 4000000 in
set_option maxRecDepth 100000 in
theorem impl_PlaceOf.p4 (g : Nat) (v0 v1 : Value) (l0 l1 : List Int) (x2 x3 x4 x5 : Int) (x6 x7 : Bool) (size reg ext nb : Int) (B base : Nat) (W : World) (hB : B ≤ g) (hBb : B ≤ base)
    (hk : W.heap[g]? = some (.cells #[v0, v1, .int .i64 x2, .int .i64 x3, .int .i64 x4, .int .i64 x5, .bool x6, .bool x7] 34 (0, 0)))
    (h0 : Kd.R (Kd.int .i64) 3 W base (fun k_ => some k_ ≠ v1.ownBlock) v0 l0) (h1 : Kd.R (Kd.int .i64) 3 W base (fun k_ => some k_ ≠ v0.ownBlock) v1 l1) (r0 : 0 ≤ reg) (r1 : reg < (l1.length : Int)) (hn : reg = 3 ∧ 2 = nb ∨ reg ≠ 3 ∧ size = nb) :
    Calls Try.prog 75 #[.pointer (some ⟨g, 0, none⟩), .int .i64 size, .agg #[.int .i64 4, .int .i64 reg, .int .i64 ext]] W fun e w' => e = .returned (.int .i64 (Go.bits .and .i64 (wrap64 (rd l1 reg - nb)) 65535)) ∧ w'.heap[g]? = some (.cells #[v0, v1, .int .i64 x2, .int .i64 x3, .int .i64 x4, .int .i64 x5, .bool x6, .bool x7] 34 (0, 0)) ∧
      Kd.R (Kd.int .i64) 3 w' base (fun k_ => some k_ ≠ v1.ownBlock) v0 l0 ∧ Kd.R (Kd.int .i64) 3 w' base (fun k_ => some k_ ≠ v0.ownBlock) v1 (l1.set reg.toNat (Go.bits .and .i64 (wrap64 (rd l1 reg - nb)) 65535)) ∧ Below B W w' := by
  have hu := Try.underlying34
  have hu2 := Try.underlying23
  obtain ⟨ga, c1, rfl, hga, hgl, hty⟩ := Kd.R_form h1 (by omega)
  have hne : g ≠ ga := by
    rintro rfl
    obtain ⟨cells, hcs⟩ := hty
    rw [hk] at hcs
    injection hcs with hcs
    injection hcs with _ ht
    cases ht
  have hne' : ga ≠ g := Ne.symm hne
  obtain ⟨hy, hyf⟩ := Kd.R_celln 0 h1 reg r0 r1
  have q1 : W.cell? ⟨g, 1, none⟩ = some (.slice (some ⟨ga, 0, none⟩) l1.length c1) := (blk_cell hk 1).trans rfl
  have f := blk_frozen hk
  have y1 : W.cell? ⟨ga, reg.toNat, none⟩ = some (.int .i64 (rd l1 reg)) := hy
  have y2 : W.frozen? ⟨ga, reg.toNat, none⟩ = false := hyf
  have zg : g < W.heap.size := blk_lt hk
  have BB : ∀ W', Below W.heap.size W W' → Below B W W' := fun W' h => ⟨h.os, h.tape, h.output, h.size, fun i hi => h.block i (by omega)⟩
  have HBB := Aside0.mk BB
  have H0 := Aside0.mk h0
  have H1 := Aside0.mk h1
  have HK := Aside0.mk hk
  clear h0 h1 hk hy hyf hty BB
  have hw : ∀ x : Int, IntKind.i64.wrap x = wrap64 x := i64_w
  have c0 := r0
  rcases hn with ⟨c3, rfl⟩ | ⟨c3, rfl⟩
  · have c3' : (reg == 3) = true := beq_iff_eq.2 c3
    clear c3
    go_enter Try.func75, Try.ntmps75
    go_wp2
    obtain ⟨W1, hW1⟩ : ∃ X, X = W.alloc (.cells #[.int .i64 4, .int .i64 reg, .int .i64 ext] 23 (0, 0)) := ⟨_, rfl⟩
    have o1 : W1.cell? ⟨W.heap.size, 1, none⟩ = some (.int .i64 reg) := by rw [hW1]; simp
    have o2 : W1.cell? ⟨W.heap.size, 2, none⟩ = some (.int .i64 ext) := by rw [hW1]; simp
    have zz : W1.heap.size = W.heap.size + 1 := by rw [hW1]; simp
    have hb1 : Below W.heap.size W W1 := by rw [hW1]; exact below_alloc (Below.refl _ _) _
    rw [← hW1]
    clear hW1
    replace q1 : W1.cell? ⟨g, 1, none⟩ = some (.slice (some ⟨ga, 0, none⟩) l1.length c1) := pw_cell_below hb1 q1
    replace y1 : W1.cell? ⟨ga, reg.toNat, none⟩ = some (.int .i64 (rd l1 reg)) := pw_cell_below hb1 y1
    replace y2 : W1.frozen? ⟨ga, reg.toNat, none⟩ = false := (hb1.frozen (p := ⟨ga, reg.toNat, none⟩) hgl).trans y2
    have HB1 := Aside0.mk hb1
    clear hb1
    have nz : ga ≠ W.heap.size := by omega
    have nz' : W.heap.size ≠ ga := by omega
    refine start_ (n := 19) (S := fun w' => w'.cell? ⟨g, 1, none⟩ = some (.slice (some ⟨ga, 0, none⟩) l1.length c1) ∧ w'.cell? ⟨W.heap.size, 1, none⟩ = some (.int .i64 reg) ∧ w'.cell? ⟨ga, reg.toNat, none⟩ = some (.int .i64 (rd l1 reg))) (ds := [18]) #[false, false, false, false, false, false, false, false, false, false, false, false, false, false, false, false, false, false, false] (by kernel_rfl) rfl rfl ⟨q1, o1, y1⟩ (fun hHeld => ?_); refine with_tabW impl_PlaceOf.tab12 impl_PlaceOf.bits12 (fun HT_ HW_ => ?_)
    have hb2 : Below W.heap.size W W1.drew := below_drew HB1.out
    replace y2 : W1.drew.frozen? ⟨ga, reg.toNat, none⟩ = false := y2
    have HB2 := Aside0.mk hb2
    clear q1 y1 o1 o2 hb2 HB1 zz
    generalize W1.drew = w2 at HB2 y2 hHeld ⊢
    have q1 := hHeld.1
    have o1 := hHeld.2.1
    have y1 := hHeld.2.2
    have o2 := trivial
    refine pure_ (i := 0) (N := some 49) (v := ?_) (a' := ?_) #[true, false, false, false, false, false, false, false, false, false, false, false, false, false, false, false, false, false, false] rfl rfl (any_of HT_.out (by kernel_rfl)) (fun _ _ _ h => h) (Or.inl ⟨by rfl, ?_⟩) ?_ ?_
    rotate_left
    · intro w'
      go_simp
      with_reducible rfl
    rotate_left
    · simp only [Act.put, List.setIfInBounds_toArray, List.set_cons_zero, List.set_cons_succ, i64_w, i32_w]
      rfl
    refine pure_ (i := 1) (N := some 50) (v := ?_) (a' := ?_) #[true, true, false, false, false, false, false, false, false, false, false, false, false, false, false, false, false, false, false] rfl rfl (any_of HT_.out (by kernel_rfl)) (fun _ _ _ h => h) (Or.inl ⟨by rfl, ?_⟩) ?_ ?_
    rotate_left
    · intro w'
      go_simp
      with_reducible rfl
    rotate_left
    · simp only [Act.put, List.setIfInBounds_toArray, List.set_cons_zero, List.set_cons_succ, i64_w, i32_w]
      rfl
    refine pure_ (i := 2) (N := some 51) (v := ?_) (a' := ?_) #[true, true, true, false, false, false, false, false, false, false, false, false, false, false, false, false, false, false, false] rfl rfl (any_of HT_.out (by kernel_rfl)) (fun _ _ _ h => h) (Or.inl ⟨by rfl, ?_⟩) ?_ ?_
    rotate_left
    · intro w'
      go_simp
      with_reducible rfl
    rotate_left
    · simp only [Act.put, List.setIfInBounds_toArray, List.set_cons_zero, List.set_cons_succ, i64_w, i32_w]
      rfl
    refine pure_ (i := 4) (N := some 53) (v := ?_) (a' := ?_) #[true, true, true, false, true, false, false, false, false, false, false, false, false, false, false, false, false, false, false] rfl rfl (any_of HT_.out (by kernel_rfl)) (fun _ _ _ h => h) (Or.inl ⟨by rfl, ?_⟩) ?_ ?_
    rotate_left
    · intro w'
      go_simp
      with_reducible rfl
    rotate_left
    · simp only [Act.put, List.setIfInBounds_toArray, List.set_cons_zero, List.set_cons_succ, i64_w, i32_w]
      rfl
    refine pure_ (i := 6) (N := some 55) (v := ?_) (a' := ?_) #[true, true, true, false, true, false, true, false, false, false, false, false, false, false, false, false, false, false, false] rfl rfl (any_of HT_.out (by kernel_rfl)) (fun _ _ _ h => h) (Or.inl ⟨by rfl, ?_⟩) ?_ ?_
    rotate_left
    · intro w'
      go_simp
      with_reducible rfl
    rotate_left
    · simp only [Act.put, List.setIfInBounds_toArray, List.set_cons_zero, List.set_cons_succ, i64_w, i32_w]
      rfl
    refine pure_ (i := 7) (N := some 56) (v := ?_) (a' := ?_) #[true, true, true, false, true, false, true, true, false, false, false, false, false, false, false, false, false, false, false] rfl rfl (any_of HT_.out (by kernel_rfl)) (fun _ _ _ h => h) (Or.inl ⟨by rfl, ?_⟩) ?_ ?_
    rotate_left
    · intro w'
      go_simp
      with_reducible rfl
    rotate_left
    · simp only [Act.put, List.setIfInBounds_toArray, List.set_cons_zero, List.set_cons_succ, i64_w, i32_w]
      rfl
    refine pure_ (i := 8) (N := some 57) (v := ?_) (a' := ?_) #[true, true, true, false, true, false, true, true, true, false, false, false, false, false, false, false, false, false, false] rfl rfl (any_of HT_.out (by kernel_rfl)) (fun _ _ _ h => h) (Or.inl ⟨by rfl, ?_⟩) ?_ ?_
    rotate_left
    · intro w'
      go_simp
      with_reducible rfl
    rotate_left
    · simp only [Act.put, List.setIfInBounds_toArray, List.set_cons_zero, List.set_cons_succ, i64_w, i32_w]
      rfl
    refine pure_ (i := 10) (N := some 59) (v := ?_) (a' := ?_) #[true, true, true, false, true, false, true, true, true, false, true, false, false, false, false, false, false, false, false] rfl rfl (any_of HT_.out (by kernel_rfl)) (fun _ _ _ h => h) (Or.inl ⟨by rfl, ?_⟩) ?_ ?_
    rotate_left
    · intro w'
      go_simp
      with_reducible rfl
    rotate_left
    · simp only [Act.put, List.setIfInBounds_toArray, List.set_cons_zero, List.set_cons_succ, i64_w, i32_w]
      rfl
    refine pure_ (i := 14) (N := some 63) (v := ?_) (a' := ?_) #[true, true, true, false, true, false, true, true, true, false, true, false, false, false, true, false, false, false, false] rfl rfl (any_of HT_.out (by kernel_rfl)) (fun _ _ _ h => h) (Or.inl ⟨by rfl, ?_⟩) ?_ ?_
    rotate_left
    · intro w'
      go_simp
      with_reducible rfl
    rotate_left
    · simp only [Act.put, List.setIfInBounds_toArray, List.set_cons_zero, List.set_cons_succ, i64_w, i32_w]
      rfl
    refine take_ (i := 3) (N := some 52) (v := ?_) (a' := ?_) #[true, true, true, true, true, false, true, true, true, false, true, false, false, false, true, false, false, false, false] rfl rfl (take_ofW HT_.out HW_.out (by kernel_rfl)) (fun _ _ _ h => h) (Or.inl ⟨by rfl, ?_⟩) hHeld ?_ ?_
    rotate_left
    · rintro w' ⟨s0, s1, s2⟩
      go_simp
      with_reducible rfl
    rotate_left
    · simp only [Act.put, List.setIfInBounds_toArray, List.set_cons_zero, List.set_cons_succ, i64_w, i32_w]
      rfl
    refine take_ (i := 5) (N := some 54) (v := ?_) (a' := ?_) #[true, true, true, true, true, true, true, true, true, false, true, false, false, false, true, false, false, false, false] rfl rfl (take_ofW HT_.out HW_.out (by kernel_rfl)) (fun _ _ _ h => h) (Or.inl ⟨by rfl, ?_⟩) hHeld ?_ ?_
    rotate_left
    · rintro w' ⟨s0, s1, s2⟩
      go_simp
      with_reducible rfl
    rotate_left
    · simp only [Act.put, List.setIfInBounds_toArray, List.set_cons_zero, List.set_cons_succ, i64_w, i32_w]
      rfl
    refine take_ (i := 9) (N := some 58) (v := ?_) (a' := ?_) #[true, true, true, true, true, true, true, true, true, true, true, false, false, false, true, false, false, false, false] rfl rfl (take_ofW HT_.out HW_.out (by kernel_rfl)) (fun _ _ _ h => h) (Or.inl ⟨by rfl, ?_⟩) hHeld ?_ ?_
    rotate_left
    · rintro w' ⟨s0, s1, s2⟩
      go_simp
      with_reducible rfl
    rotate_left
    · simp only [Act.put, List.setIfInBounds_toArray, List.set_cons_zero, List.set_cons_succ, i64_w, i32_w]
      rfl
    refine take_ (i := 11) (N := some 60) (v := ?_) (a' := ?_) #[true, true, true, true, true, true, true, true, true, true, true, true, false, false, true, false, false, false, false] rfl rfl (take_ofW HT_.out HW_.out (by kernel_rfl)) (fun _ _ _ h => h) (Or.inl ⟨by rfl, ?_⟩) hHeld ?_ ?_
    rotate_left
    · rintro w' ⟨s0, s1, s2⟩
      go_simp
      with_reducible rfl
    rotate_left
    · simp only [Act.put, List.setIfInBounds_toArray, List.set_cons_zero, List.set_cons_succ, i64_w, i32_w]
      rfl
    refine pure_ (i := 12) (N := some 61) (v := ?_) (a' := ?_) #[true, true, true, true, true, true, true, true, true, true, true, true, true, false, true, false, false, false, false] rfl rfl (any_of HT_.out (by kernel_rfl)) (fun _ _ _ h => h) (Or.inl ⟨by rfl, ?_⟩) ?_ ?_
    rotate_left
    · intro w'
      go_simp
      with_reducible rfl
    rotate_left
    · simp only [Act.put, List.setIfInBounds_toArray, List.set_cons_zero, List.set_cons_succ, i64_w, i32_w]
      rfl
    refine take_ (i := 13) (N := some 62) (v := ?_) (a' := ?_) #[true, true, true, true, true, true, true, true, true, true, true, true, true, true, true, false, false, false, false] rfl rfl (take_ofW HT_.out HW_.out (by kernel_rfl)) (fun _ _ _ h => h) (Or.inl ⟨by rfl, ?_⟩) hHeld ?_ ?_
    rotate_left
    · rintro w' ⟨s0, s1, s2⟩
      go_simp
      with_reducible rfl
    rotate_left
    · simp only [Act.put, List.setIfInBounds_toArray, List.set_cons_zero, List.set_cons_succ, i64_w, i32_w]
      rfl
    refine pure_ (i := 15) (N := some 64) (v := ?_) (a' := ?_) #[true, true, true, true, true, true, true, true, true, true, true, true, true, true, true, true, false, false, false] rfl rfl (any_of HT_.out (by kernel_rfl)) (fun _ _ _ h => h) (Or.inl ⟨by rfl, ?_⟩) ?_ ?_
    rotate_left
    · intro w'
      go_simp
      with_reducible rfl
    rotate_left
    · simp only [Act.put, List.setIfInBounds_toArray, List.set_cons_zero, List.set_cons_succ, i64_w, i32_w]
      rfl
    refine pure_ (i := 16) (N := some 65) (v := ?_) (a' := ?_) #[true, true, true, true, true, true, true, true, true, true, true, true, true, true, true, true, true, false, false] rfl rfl (any_of HT_.out (by kernel_rfl)) (fun _ _ _ h => h) (Or.inl ⟨by rfl, ?_⟩) ?_ ?_
    rotate_left
    · intro w'
      go_simp
      with_reducible rfl
    rotate_left
    · simp only [Act.put, List.setIfInBounds_toArray, List.set_cons_zero, List.set_cons_succ, i64_w, i32_w]
      rfl
    refine pure_ (i := 17) (N := some 66) (v := ?_) (a' := ?_) #[true, true, true, true, true, true, true, true, true, true, true, true, true, true, true, true, true, true, false] rfl rfl (any_of HT_.out (by kernel_rfl)) (fun _ _ _ h => h) (Or.inl ⟨by rfl, ?_⟩) ?_ ?_
    rotate_left
    · intro w'
      go_simp
      with_reducible rfl
    rotate_left
    · simp only [Act.put, List.setIfInBounds_toArray, List.set_cons_zero, List.set_cons_succ, i64_w, i32_w]
      rfl
    refine last_ (i := 18) (N := none) #[true, true, true, true, true, true, true, true, true, true, true, true, true, true, true, true, true, true, true] rfl rfl (one_of HT_.out (by kernel_rfl)) (by decide) (fun K hK => ?_)
    refine skip_ (w1 := ?_) (by rfl) rfl ?_ ?_
    rotate_left
    · go_simp
      rfl
    refine hK.out _ _ ?_
    clear hK K
    refine done_ (done_of HT_.out (by kernel_rfl)) ?_
    go_wp2
    try simp only [hw]
    obtain ⟨x, hx⟩ : ∃ x, x = Go.bits .and .i64 (wrap64 (rd l1 reg - 2)) 65535 := ⟨_, rfl⟩
    rw [← hx]
    obtain ⟨W4, hW4⟩ : ∃ X, X = w2.setCell ⟨ga, reg.toNat, none⟩ (.int .i64 x) := ⟨_, rfl⟩
    have y4 : W4.cell? ⟨ga, reg.toNat, none⟩ = some (.int .i64 x) := by rw [hW4]; exact World.cell?_setCell_same _ _ _ y1
    have q4 : W4.cell? ⟨g, 1, none⟩ = some (.slice (some ⟨ga, 0, none⟩) l1.length c1) := by rw [hW4, World.cell?_setCell_far _ _ _ _ hne']; exact q1
    have o4 : W4.cell? ⟨W.heap.size, 1, none⟩ = some (.int .i64 reg) := by rw [hW4, World.cell?_setCell_far _ _ _ _ nz]; exact o1
    clear y1 q1 o1 o2
    rw [← hW4]
    have HW4 := Aside0.mk hW4
    clear hW4
    go_region_held3 (fun w' => w'.cell? ⟨g, 1, none⟩ = some (.slice (some ⟨ga, 0, none⟩) l1.length c1) ∧ w'.cell? ⟨W.heap.size, 1, none⟩ = some (.int .i64 reg) ∧ w'.cell? ⟨ga, reg.toNat, none⟩ = some (.int .i64 (x))) (go_keep) (fail)
    go_wp2
    go_ret
    have hb := HB2.out
    have hk2 := blk_below HK.out hb
    have hW4 := HW4.out
    subst hW4
    subst hx
    refine ⟨rfl, ?_, ?_, ?_, ?_⟩
    · (repeat (with_reducible refine blk_drew ?_)); exact blk_far hk2 hne _
    · refine impl_PlaceOf.far (u := .slice (some ⟨ga, 0, none⟩) l1.length c1) hk2 (by decide) (Kd.R_below H0.out hb) (fun _ h => h) (fun k hkg hku => ?_)
      exact Below.heap_setCell _ _ _ _ (fun e => hku (by rw [e]; rfl))
    · (repeat (with_reducible refine Kd.R_drew ?_)); exact Kd.R_putn (Kd.R_below H1.out hb) reg _
    · (repeat (with_reducible apply below_drew)); exact (HBB.out _ hb).setCell (show B ≤ ga by omega) _
  · have c3' : (reg == 3) = false := beq_eq_false_iff_ne.2 c3
    go_enter Try.func75, Try.ntmps75
    go_wp2
    obtain ⟨W1, hW1⟩ : ∃ X, X = W.alloc (.cells #[.int .i64 4, .int .i64 reg, .int .i64 ext] 23 (0, 0)) := ⟨_, rfl⟩
    have o1 : W1.cell? ⟨W.heap.size, 1, none⟩ = some (.int .i64 reg) := by rw [hW1]; simp
    have o2 : W1.cell? ⟨W.heap.size, 2, none⟩ = some (.int .i64 ext) := by rw [hW1]; simp
    have zz : W1.heap.size = W.heap.size + 1 := by rw [hW1]; simp
    have hb1 : Below W.heap.size W W1 := by rw [hW1]; exact below_alloc (Below.refl _ _) _
    rw [← hW1]
    clear hW1
    replace q1 : W1.cell? ⟨g, 1, none⟩ = some (.slice (some ⟨ga, 0, none⟩) l1.length c1) := pw_cell_below hb1 q1
    replace y1 : W1.cell? ⟨ga, reg.toNat, none⟩ = some (.int .i64 (rd l1 reg)) := pw_cell_below hb1 y1
    replace y2 : W1.frozen? ⟨ga, reg.toNat, none⟩ = false := (hb1.frozen (p := ⟨ga, reg.toNat, none⟩) hgl).trans y2
    have HB1 := Aside0.mk hb1
    clear hb1
    have nz : ga ≠ W.heap.size := by omega
    have nz' : W.heap.size ≠ ga := by omega
    refine start_ (n := 19) (S := fun w' => w'.cell? ⟨g, 1, none⟩ = some (.slice (some ⟨ga, 0, none⟩) l1.length c1) ∧ w'.cell? ⟨W.heap.size, 1, none⟩ = some (.int .i64 reg) ∧ w'.cell? ⟨ga, reg.toNat, none⟩ = some (.int .i64 (rd l1 reg))) (ds := [18]) #[false, false, false, false, false, false, false, false, false, false, false, false, false, false, false, false, false, false, false] (by kernel_rfl) rfl rfl ⟨q1, o1, y1⟩ (fun hHeld => ?_); refine with_tabW impl_PlaceOf.tab12 impl_PlaceOf.bits12 (fun HT_ HW_ => ?_)
    have hb2 : Below W.heap.size W W1.drew := below_drew HB1.out
    replace y2 : W1.drew.frozen? ⟨ga, reg.toNat, none⟩ = false := y2
    have HB2 := Aside0.mk hb2
    clear q1 y1 o1 o2 hb2 HB1 zz
    generalize W1.drew = w2 at HB2 y2 hHeld ⊢
    have q1 := hHeld.1
    have o1 := hHeld.2.1
    have y1 := hHeld.2.2
    have o2 := trivial
    refine pure_ (i := 0) (N := some 49) (v := ?_) (a' := ?_) #[true, false, false, false, false, false, false, false, false, false, false, false, false, false, false, false, false, false, false] rfl rfl (any_of HT_.out (by kernel_rfl)) (fun _ _ _ h => h) (Or.inl ⟨by rfl, ?_⟩) ?_ ?_
    rotate_left
    · intro w'
      go_simp
      with_reducible rfl
    rotate_left
    · simp only [Act.put, List.setIfInBounds_toArray, List.set_cons_zero, List.set_cons_succ, i64_w, i32_w]
      rfl
    refine pure_ (i := 1) (N := some 50) (v := ?_) (a' := ?_) #[true, true, false, false, false, false, false, false, false, false, false, false, false, false, false, false, false, false, false] rfl rfl (any_of HT_.out (by kernel_rfl)) (fun _ _ _ h => h) (Or.inl ⟨by rfl, ?_⟩) ?_ ?_
    rotate_left
    · intro w'
      go_simp
      with_reducible rfl
    rotate_left
    · simp only [Act.put, List.setIfInBounds_toArray, List.set_cons_zero, List.set_cons_succ, i64_w, i32_w]
      rfl
    refine pure_ (i := 2) (N := some 51) (v := ?_) (a' := ?_) #[true, true, true, false, false, false, false, false, false, false, false, false, false, false, false, false, false, false, false] rfl rfl (any_of HT_.out (by kernel_rfl)) (fun _ _ _ h => h) (Or.inl ⟨by rfl, ?_⟩) ?_ ?_
    rotate_left
    · intro w'
      go_simp
      with_reducible rfl
    rotate_left
    · simp only [Act.put, List.setIfInBounds_toArray, List.set_cons_zero, List.set_cons_succ, i64_w, i32_w]
      rfl
    refine pure_ (i := 4) (N := some 53) (v := ?_) (a' := ?_) #[true, true, true, false, true, false, false, false, false, false, false, false, false, false, false, false, false, false, false] rfl rfl (any_of HT_.out (by kernel_rfl)) (fun _ _ _ h => h) (Or.inl ⟨by rfl, ?_⟩) ?_ ?_
    rotate_left
    · intro w'
      go_simp
      with_reducible rfl
    rotate_left
    · simp only [Act.put, List.setIfInBounds_toArray, List.set_cons_zero, List.set_cons_succ, i64_w, i32_w]
      rfl
    refine pure_ (i := 6) (N := some 55) (v := ?_) (a' := ?_) #[true, true, true, false, true, false, true, false, false, false, false, false, false, false, false, false, false, false, false] rfl rfl (any_of HT_.out (by kernel_rfl)) (fun _ _ _ h => h) (Or.inl ⟨by rfl, ?_⟩) ?_ ?_
    rotate_left
    · intro w'
      go_simp
      with_reducible rfl
    rotate_left
    · simp only [Act.put, List.setIfInBounds_toArray, List.set_cons_zero, List.set_cons_succ, i64_w, i32_w]
      rfl
    refine pure_ (i := 7) (N := some 56) (v := ?_) (a' := ?_) #[true, true, true, false, true, false, true, true, false, false, false, false, false, false, false, false, false, false, false] rfl rfl (any_of HT_.out (by kernel_rfl)) (fun _ _ _ h => h) (Or.inl ⟨by rfl, ?_⟩) ?_ ?_
    rotate_left
    · intro w'
      go_simp
      with_reducible rfl
    rotate_left
    · simp only [Act.put, List.setIfInBounds_toArray, List.set_cons_zero, List.set_cons_succ, i64_w, i32_w]
      rfl
    refine pure_ (i := 8) (N := some 57) (v := ?_) (a' := ?_) #[true, true, true, false, true, false, true, true, true, false, false, false, false, false, false, false, false, false, false] rfl rfl (any_of HT_.out (by kernel_rfl)) (fun _ _ _ h => h) (Or.inl ⟨by rfl, ?_⟩) ?_ ?_
    rotate_left
    · intro w'
      go_simp
      with_reducible rfl
    rotate_left
    · simp only [Act.put, List.setIfInBounds_toArray, List.set_cons_zero, List.set_cons_succ, i64_w, i32_w]
      rfl
    refine pure_ (i := 10) (N := some 59) (v := ?_) (a' := ?_) #[true, true, true, false, true, false, true, true, true, false, true, false, false, false, false, false, false, false, false] rfl rfl (any_of HT_.out (by kernel_rfl)) (fun _ _ _ h => h) (Or.inl ⟨by rfl, ?_⟩) ?_ ?_
    rotate_left
    · intro w'
      go_simp
      with_reducible rfl
    rotate_left
    · simp only [Act.put, List.setIfInBounds_toArray, List.set_cons_zero, List.set_cons_succ, i64_w, i32_w]
      rfl
    refine pure_ (i := 14) (N := some 63) (v := ?_) (a' := ?_) #[true, true, true, false, true, false, true, true, true, false, true, false, false, false, true, false, false, false, false] rfl rfl (any_of HT_.out (by kernel_rfl)) (fun _ _ _ h => h) (Or.inl ⟨by rfl, ?_⟩) ?_ ?_
    rotate_left
    · intro w'
      go_simp
      with_reducible rfl
    rotate_left
    · simp only [Act.put, List.setIfInBounds_toArray, List.set_cons_zero, List.set_cons_succ, i64_w, i32_w]
      rfl
    refine take_ (i := 3) (N := some 52) (v := ?_) (a' := ?_) #[true, true, true, true, true, false, true, true, true, false, true, false, false, false, true, false, false, false, false] rfl rfl (take_ofW HT_.out HW_.out (by kernel_rfl)) (fun _ _ _ h => h) (Or.inl ⟨by rfl, ?_⟩) hHeld ?_ ?_
    rotate_left
    · rintro w' ⟨s0, s1, s2⟩
      go_simp
      with_reducible rfl
    rotate_left
    · simp only [Act.put, List.setIfInBounds_toArray, List.set_cons_zero, List.set_cons_succ, i64_w, i32_w]
      rfl
    refine take_ (i := 5) (N := some 54) (v := ?_) (a' := ?_) #[true, true, true, true, true, true, true, true, true, false, true, false, false, false, true, false, false, false, false] rfl rfl (take_ofW HT_.out HW_.out (by kernel_rfl)) (fun _ _ _ h => h) (Or.inl ⟨by rfl, ?_⟩) hHeld ?_ ?_
    rotate_left
    · rintro w' ⟨s0, s1, s2⟩
      go_simp
      with_reducible rfl
    rotate_left
    · simp only [Act.put, List.setIfInBounds_toArray, List.set_cons_zero, List.set_cons_succ, i64_w, i32_w]
      rfl
    refine take_ (i := 9) (N := some 58) (v := ?_) (a' := ?_) #[true, true, true, true, true, true, true, true, true, true, true, false, false, false, true, false, false, false, false] rfl rfl (take_ofW HT_.out HW_.out (by kernel_rfl)) (fun _ _ _ h => h) (Or.inl ⟨by rfl, ?_⟩) hHeld ?_ ?_
    rotate_left
    · rintro w' ⟨s0, s1, s2⟩
      go_simp
      with_reducible rfl
    rotate_left
    · simp only [Act.put, List.setIfInBounds_toArray, List.set_cons_zero, List.set_cons_succ, i64_w, i32_w]
      rfl
    refine take_ (i := 11) (N := some 60) (v := ?_) (a' := ?_) #[true, true, true, true, true, true, true, true, true, true, true, true, false, false, true, false, false, false, false] rfl rfl (take_ofW HT_.out HW_.out (by kernel_rfl)) (fun _ _ _ h => h) (Or.inl ⟨by rfl, ?_⟩) hHeld ?_ ?_
    rotate_left
    · rintro w' ⟨s0, s1, s2⟩
      go_simp
      with_reducible rfl
    rotate_left
    · simp only [Act.put, List.setIfInBounds_toArray, List.set_cons_zero, List.set_cons_succ, i64_w, i32_w]
      rfl
    refine pure_ (i := 12) (N := some 61) (v := ?_) (a' := ?_) #[true, true, true, true, true, true, true, true, true, true, true, true, true, false, true, false, false, false, false] rfl rfl (any_of HT_.out (by kernel_rfl)) (fun _ _ _ h => h) (Or.inl ⟨by rfl, ?_⟩) ?_ ?_
    rotate_left
    · intro w'
      go_simp
      with_reducible rfl
    rotate_left
    · simp only [Act.put, List.setIfInBounds_toArray, List.set_cons_zero, List.set_cons_succ, i64_w, i32_w]
      rfl
    refine take_ (i := 13) (N := some 62) (v := ?_) (a' := ?_) #[true, true, true, true, true, true, true, true, true, true, true, true, true, true, true, false, false, false, false] rfl rfl (take_ofW HT_.out HW_.out (by kernel_rfl)) (fun _ _ _ h => h) (Or.inl ⟨by rfl, ?_⟩) hHeld ?_ ?_
    rotate_left
    · rintro w' ⟨s0, s1, s2⟩
      go_simp
      with_reducible rfl
    rotate_left
    · simp only [Act.put, List.setIfInBounds_toArray, List.set_cons_zero, List.set_cons_succ, i64_w, i32_w]
      rfl
    refine pure_ (i := 15) (N := some 64) (v := ?_) (a' := ?_) #[true, true, true, true, true, true, true, true, true, true, true, true, true, true, true, true, false, false, false] rfl rfl (any_of HT_.out (by kernel_rfl)) (fun _ _ _ h => h) (Or.inl ⟨by rfl, ?_⟩) ?_ ?_
    rotate_left
    · intro w'
      go_simp
      with_reducible rfl
    rotate_left
    · simp only [Act.put, List.setIfInBounds_toArray, List.set_cons_zero, List.set_cons_succ, i64_w, i32_w]
      rfl
    refine pure_ (i := 16) (N := some 65) (v := ?_) (a' := ?_) #[true, true, true, true, true, true, true, true, true, true, true, true, true, true, true, true, true, false, false] rfl rfl (any_of HT_.out (by kernel_rfl)) (fun _ _ _ h => h) (Or.inl ⟨by rfl, ?_⟩) ?_ ?_
    rotate_left
    · intro w'
      go_simp
      with_reducible rfl
    rotate_left
    · simp only [Act.put, List.setIfInBounds_toArray, List.set_cons_zero, List.set_cons_succ, i64_w, i32_w]
      rfl
    refine pure_ (i := 17) (N := some 66) (v := ?_) (a' := ?_) #[true, true, true, true, true, true, true, true, true, true, true, true, true, true, true, true, true, true, false] rfl rfl (any_of HT_.out (by kernel_rfl)) (fun _ _ _ h => h) (Or.inl ⟨by rfl, ?_⟩) ?_ ?_
    rotate_left
    · intro w'
      go_simp
      with_reducible rfl
    rotate_left
    · simp only [Act.put, List.setIfInBounds_toArray, List.set_cons_zero, List.set_cons_succ, i64_w, i32_w]
      rfl
    refine last_ (i := 18) (N := none) #[true, true, true, true, true, true, true, true, true, true, true, true, true, true, true, true, true, true, true] rfl rfl (one_of HT_.out (by kernel_rfl)) (by decide) (fun K hK => ?_)
    refine skip_ (w1 := ?_) (by rfl) rfl ?_ ?_
    rotate_left
    · go_simp
      rfl
    refine hK.out _ _ ?_
    clear hK K
    refine done_ (done_of HT_.out (by kernel_rfl)) ?_
    go_wp2
    try simp only [hw]
    obtain ⟨x, hx⟩ : ∃ x, x = Go.bits .and .i64 (wrap64 (rd l1 reg - size)) 65535 := ⟨_, rfl⟩
    rw [← hx]
    obtain ⟨W4, hW4⟩ : ∃ X, X = w2.setCell ⟨ga, reg.toNat, none⟩ (.int .i64 x) := ⟨_, rfl⟩
    have y4 : W4.cell? ⟨ga, reg.toNat, none⟩ = some (.int .i64 x) := by rw [hW4]; exact World.cell?_setCell_same _ _ _ y1
    have q4 : W4.cell? ⟨g, 1, none⟩ = some (.slice (some ⟨ga, 0, none⟩) l1.length c1) := by rw [hW4, World.cell?_setCell_far _ _ _ _ hne']; exact q1
    have o4 : W4.cell? ⟨W.heap.size, 1, none⟩ = some (.int .i64 reg) := by rw [hW4, World.cell?_setCell_far _ _ _ _ nz]; exact o1
    clear y1 q1 o1 o2
    rw [← hW4]
    have HW4 := Aside0.mk hW4
    clear hW4
    go_region_held3 (fun w' => w'.cell? ⟨g, 1, none⟩ = some (.slice (some ⟨ga, 0, none⟩) l1.length c1) ∧ w'.cell? ⟨W.heap.size, 1, none⟩ = some (.int .i64 reg) ∧ w'.cell? ⟨ga, reg.toNat, none⟩ = some (.int .i64 (x))) (go_keep) (fail)
    go_wp2
    go_ret
    have hb := HB2.out
    have hk2 := blk_below HK.out hb
    have hW4 := HW4.out
    subst hW4
    subst hx
    refine ⟨rfl, ?_, ?_, ?_, ?_⟩
    · (repeat (with_reducible refine blk_drew ?_)); exact blk_far hk2 hne _
    · refine impl_PlaceOf.far (u := .slice (some ⟨ga, 0, none⟩) l1.length c1) hk2 (by decide) (Kd.R_below H0.out hb) (fun _ h => h) (fun k hkg hku => ?_)
      exact Below.heap_setCell _ _ _ _ (fun e => hku (by rw [e]; rfl))
    · (repeat (with_reducible refine Kd.R_drew ?_)); exact Kd.R_putn (Kd.R_below H1.out hb) reg _
    · (repeat (with_reducible apply below_drew)); exact (HBB.out _ hb).setCell (show B ≤ ga by omega) _
set_option maxHeartbeats 4000000 in
set_option maxRecDepth 100000 in
theorem impl_PlaceOf.p5 (g : Nat) (v0 v1 : Value) (l0 l1 : List Int) (x2 x3 x4 x5 : Int) (x6 x7 : Bool) (size reg ext : Int) (B base : Nat) (W : World) (hB : B ≤ g) (hBb : B ≤ base)
    (hk : W.heap[g]? = some (.cells #[v0, v1, .int .i64 x2, .int .i64 x3, .int .i64 x4, .int .i64 x5, .bool x6, .bool x7] 34 (0, 0)))
    (h0 : Kd.R (Kd.int .i64) 3 W base (fun k_ => some k_ ≠ v1.ownBlock) v0 l0) (h1 : Kd.R (Kd.int .i64) 3 W base (fun k_ => some k_ ≠ v0.ownBlock) v1 l1) (r0 : 0 ≤ reg) (r1 : reg < (l1.length : Int)) :
    Calls Try.prog 75 #[.pointer (some ⟨g, 0, none⟩), .int .i64 size, .agg #[.int .i64 5, .int .i64 reg, .int .i64 ext]] W fun e w' => e = .returned (.int .i64 (Go.bits .and .i64 (wrap64 (rd l1 reg + ext)) 65535)) ∧ w'.heap[g]? = some (.cells #[v0, v1, .int .i64 x2, .int .i64 x3, .int .i64 x4, .int .i64 x5, .bool x6, .bool x7] 34 (0, 0)) ∧
      Kd.R (Kd.int .i64) 3 w' base (fun k_ => some k_ ≠ v1.ownBlock) v0 l0 ∧ Kd.R (Kd.int .i64) 3 w' base (fun k_ => some k_ ≠ v0.ownBlock) v1 l1 ∧ Below B W w' := by
  have hu := Try.underlying34
  have hu2 := Try.underlying23
  obtain ⟨ga, c1, rfl, hga, hgl, hty⟩ := Kd.R_form h1 (by omega)
  have hne : g ≠ ga := by
    rintro rfl
    obtain ⟨cells, hcs⟩ := hty
    rw [hk] at hcs
    injection hcs with hcs
    injection hcs with _ ht
    cases ht
  have hne' : ga ≠ g := Ne.symm hne
  obtain ⟨hy, hyf⟩ := Kd.R_celln 0 h1 reg r0 r1
  have q1 : W.cell? ⟨g, 1, none⟩ = some (.slice (some ⟨ga, 0, none⟩) l1.length c1) := (blk_cell hk 1).trans rfl
  have f := blk_frozen hk
  have y1 : W.cell? ⟨ga, reg.toNat, none⟩ = some (.int .i64 (rd l1 reg)) := hy
  have y2 : W.frozen? ⟨ga, reg.toNat, none⟩ = false := hyf
  have zg : g < W.heap.size := blk_lt hk
  have BB : ∀ W', Below W.heap.size W W' → Below B W W' := fun W' h => ⟨h.os, h.tape, h.output, h.size, fun i hi => h.block i (by omega)⟩
  have HBB := Aside0.mk BB
  have H0 := Aside0.mk h0
  have H1 := Aside0.mk h1
  have HK := Aside0.mk hk
  clear h0 h1 hk hy hyf hty BB
  have hw : ∀ x : Int, IntKind.i64.wrap x = wrap64 x := i64_w
  have c0 := r0
  by_cases c3 : reg = 3
  · have c3' : (reg == 3) = true := beq_iff_eq.2 c3
    clear c3
    go_enter Try.func75, Try.ntmps75
    go_wp2
    obtain ⟨W1, hW1⟩ : ∃ X, X = W.alloc (.cells #[.int .i64 5, .int .i64 reg, .int .i64 ext] 23 (0, 0)) := ⟨_, rfl⟩
    have o1 : W1.cell? ⟨W.heap.size, 1, none⟩ = some (.int .i64 reg) := by rw [hW1]; simp
    have o2 : W1.cell? ⟨W.heap.size, 2, none⟩ = some (.int .i64 ext) := by rw [hW1]; simp
    have zz : W1.heap.size = W.heap.size + 1 := by rw [hW1]; simp
    have hb1 : Below W.heap.size W W1 := by rw [hW1]; exact below_alloc (Below.refl _ _) _
    rw [← hW1]
    clear hW1
    replace q1 : W1.cell? ⟨g, 1, none⟩ = some (.slice (some ⟨ga, 0, none⟩) l1.length c1) := pw_cell_below hb1 q1
    replace y1 : W1.cell? ⟨ga, reg.toNat, none⟩ = some (.int .i64 (rd l1 reg)) := pw_cell_below hb1 y1
    replace y2 : W1.frozen? ⟨ga, reg.toNat, none⟩ = false := (hb1.frozen (p := ⟨ga, reg.toNat, none⟩) hgl).trans y2
    have HB1 := Aside0.mk hb1
    clear hb1
    have nz : ga ≠ W.heap.size := by omega
    have nz' : W.heap.size ≠ ga := by omega
    go_region_held3 (fun w' => w'.cell? ⟨g, 1, none⟩ = some (.slice (some ⟨ga, 0, none⟩) l1.length c1) ∧ w'.cell? ⟨W.heap.size, 1, none⟩ = some (.int .i64 reg) ∧ w'.cell? ⟨W.heap.size, 2, none⟩ = some (.int .i64 ext) ∧ w'.cell? ⟨ga, reg.toNat, none⟩ = some (.int .i64 (rd l1 reg))) (go_keep) (fail)
    go_wp2
    try simp only [hw]
    go_ret
    have hb : Below W.heap.size W W1.drew := by (repeat (with_reducible first | apply below_drew | apply pw_below_drewN)); exact HB1.out
    exact ⟨rfl, blk_below HK.out hb, Kd.R_below H0.out hb, Kd.R_below H1.out hb, HBB.out _ hb⟩
  · have c3' : (reg == 3) = false := beq_eq_false_iff_ne.2 c3
    go_enter Try.func75, Try.ntmps75
    go_wp2
    obtain ⟨W1, hW1⟩ : ∃ X, X = W.alloc (.cells #[.int .i64 5, .int .i64 reg, .int .i64 ext] 23 (0, 0)) := ⟨_, rfl⟩
    have o1 : W1.cell? ⟨W.heap.size, 1, none⟩ = some (.int .i64 reg) := by rw [hW1]; simp
    have o2 : W1.cell? ⟨W.heap.size, 2, none⟩ = some (.int .i64 ext) := by rw [hW1]; simp
    have zz : W1.heap.size = W.heap.size + 1 := by rw [hW1]; simp
    have hb1 : Below W.heap.size W W1 := by rw [hW1]; exact below_alloc (Below.refl _ _) _
    rw [← hW1]
    clear hW1
    replace q1 : W1.cell? ⟨g, 1, none⟩ = some (.slice (some ⟨ga, 0, none⟩) l1.length c1) := pw_cell_below hb1 q1
    replace y1 : W1.cell? ⟨ga, reg.toNat, none⟩ = some (.int .i64 (rd l1 reg)) := pw_cell_below hb1 y1
    replace y2 : W1.frozen? ⟨ga, reg.toNat, none⟩ = false := (hb1.frozen (p := ⟨ga, reg.toNat, none⟩) hgl).trans y2
    have HB1 := Aside0.mk hb1
    clear hb1
    have nz : ga ≠ W.heap.size := by omega
    have nz' : W.heap.size ≠ ga := by omega
    go_region_held3 (fun w' => w'.cell? ⟨g, 1, none⟩ = some (.slice (some ⟨ga, 0, none⟩) l1.length c1) ∧ w'.cell? ⟨W.heap.size, 1, none⟩ = some (.int .i64 reg) ∧ w'.cell? ⟨W.heap.size, 2, none⟩ = some (.int .i64 ext) ∧ w'.cell? ⟨ga, reg.toNat, none⟩ = some (.int .i64 (rd l1 reg))) (go_keep) (fail)
    go_wp2
    try simp only [hw]
    go_ret
    have hb : Below W.heap.size W W1.drew := by (repeat (with_reducible first | apply below_drew | apply pw_below_drewN)); exact HB1.out
    exact ⟨rfl, blk_below HK.out hb, Kd.R_below H0.out hb, Kd.R_below H1.out hb, HBB.out _ hb⟩
set_option maxHeartbeats 4000000 in
set_option maxRecDepth 100000 in
theorem impl_PlaceOf.p6 (g : Nat) (v0 v1 : Value) (l0 l1 : List Int) (x2 x3 x4 x5 : Int) (x6 x7 : Bool) (size reg ext : Int) (B base : Nat) (W : World) (hB : B ≤ g) (hBb : B ≤ base)
    (hk : W.heap[g]? = some (.cells #[v0, v1, .int .i64 x2, .int .i64 x3, .int .i64 x4, .int .i64 x5, .bool x6, .bool x7] 34 (0, 0)))
    (h0 : Kd.R (Kd.int .i64) 3 W base (fun k_ => some k_ ≠ v1.ownBlock) v0 l0) (h1 : Kd.R (Kd.int .i64) 3 W base (fun k_ => some k_ ≠ v0.ownBlock) v1 l1) (r0 : 0 ≤ reg) (r1 : reg < (l1.length : Int)) :
    Calls Try.prog 75 #[.pointer (some ⟨g, 0, none⟩), .int .i64 size, .agg #[.int .i64 6, .int .i64 reg, .int .i64 ext]] W fun e w' => e = .returned (.int .i64 (ext)) ∧ w'.heap[g]? = some (.cells #[v0, v1, .int .i64 x2, .int .i64 x3, .int .i64 x4, .int .i64 x5, .bool x6, .bool x7] 34 (0, 0)) ∧
      Kd.R (Kd.int .i64) 3 w' base (fun k_ => some k_ ≠ v1.ownBlock) v0 l0 ∧ Kd.R (Kd.int .i64) 3 w' base (fun k_ => some k_ ≠ v0.ownBlock) v1 l1 ∧ Below B W w' := by
  have hu := Try.underlying34
  have hu2 := Try.underlying23
  obtain ⟨ga, c1, rfl, hga, hgl, hty⟩ := Kd.R_form h1 (by omega)
  have hne : g ≠ ga := by
    rintro rfl
    obtain ⟨cells, hcs⟩ := hty
    rw [hk] at hcs
    injection hcs with hcs
    injection hcs with _ ht
    cases ht
  have hne' : ga ≠ g := Ne.symm hne
  obtain ⟨hy, hyf⟩ := Kd.R_celln 0 h1 reg r0 r1
  have q1 : W.cell? ⟨g, 1, none⟩ = some (.slice (some ⟨ga, 0, none⟩) l1.length c1) := (blk_cell hk 1).trans rfl
  have f := blk_frozen hk
  have y1 : W.cell? ⟨ga, reg.toNat, none⟩ = some (.int .i64 (rd l1 reg)) := hy
  have y2 : W.frozen? ⟨ga, reg.toNat, none⟩ = false := hyf
  have zg : g < W.heap.size := blk_lt hk
  have BB : ∀ W', Below W.heap.size W W' → Below B W W' := fun W' h => ⟨h.os, h.tape, h.output, h.size, fun i hi => h.block i (by omega)⟩
  have HBB := Aside0.mk BB
  have H0 := Aside0.mk h0
  have H1 := Aside0.mk h1
  have HK := Aside0.mk hk
  clear h0 h1 hk hy hyf hty BB
  have c0 := r0
  by_cases c3 : reg = 3
  · have c3' : (reg == 3) = true := beq_iff_eq.2 c3
    clear c3
    go_enter Try.func75, Try.ntmps75
    go_wp2
    go_ret
    have hb : Below W.heap.size W (W.alloc (.cells #[.int .i64 6, .int .i64 reg, .int .i64 ext] 23 (0, 0))) := below_alloc (Below.refl _ _) _
    exact ⟨rfl, blk_below HK.out hb, Kd.R_below H0.out hb, Kd.R_below H1.out hb, HBB.out _ hb⟩
  · have c3' : (reg == 3) = false := beq_eq_false_iff_ne.2 c3
    go_enter Try.func75, Try.ntmps75
    go_wp2
    go_ret
    have hb : Below W.heap.size W (W.alloc (.cells #[.int .i64 6, .int .i64 reg, .int .i64 ext] 23 (0, 0))) := below_alloc (Below.refl _ _) _
    exact ⟨rfl, blk_below HK.out hb, Kd.R_below H0.out hb, Kd.R_below H1.out hb, HBB.out _ hb⟩
set_option maxHeartbeats 4000000 in
set_option maxRecDepth 100000 in
theorem impl_PlaceOf.place (g : Nat) (v0 v1 : Value) (l0 l1 : List Int) (x2 x3 x4 x5 : Int) (x6 x7 : Bool) (size reg ext mode : Int) (nl : List Int) (na : Int) (B base : Nat) (W : World) (hB : B ≤ g) (hBb : B ≤ base)
    (hk : W.heap[g]? = some (.cells #[v0, v1, .int .i64 x2, .int .i64 x3, .int .i64 x4, .int .i64 x5, .bool x6, .bool x7] 34 (0, 0)))
    (h0 : Kd.R (Kd.int .i64) 3 W base (fun k_ => some k_ ≠ v1.ownBlock) v0 l0) (h1 : Kd.R (Kd.int .i64) 3 W base (fun k_ => some k_ ≠ v0.ownBlock) v1 l1) (r0 : 0 ≤ reg) (r1 : reg < (l1.length : Int)) (hm : 2 ≤ mode ∧ mode ≤ 6) (hl : nl = (if mode = 3 then l1.set reg.toNat (Go.bits .and .i64 (wrap64 (rd l1 reg + (if reg = 3 then 2 else size))) 65535) else if mode = 4 then l1.set reg.toNat (Go.bits .and .i64 (wrap64 (rd l1 reg - (if reg = 3 then 2 else size))) 65535) else l1)) (ha : na = (if mode = 2 then rd l1 reg else if mode = 3 then rd l1 reg else if mode = 4 then Go.bits .and .i64 (wrap64 (rd l1 reg - (if reg = 3 then 2 else size))) 65535 else if mode = 5 then Go.bits .and .i64 (wrap64 (rd l1 reg + ext)) 65535 else ext)) :
    Calls Try.prog 75 #[.pointer (some ⟨g, 0, none⟩), .int .i64 size, .agg #[.int .i64 mode, .int .i64 reg, .int .i64 ext]] W fun e w' => e = .returned (.int .i64 na) ∧ w'.heap[g]? = some (.cells #[v0, v1, .int .i64 x2, .int .i64 x3, .int .i64 x4, .int .i64 x5, .bool x6, .bool x7] 34 (0, 0)) ∧
      Kd.R (Kd.int .i64) 3 w' base (fun k_ => some k_ ≠ v1.ownBlock) v0 l0 ∧ Kd.R (Kd.int .i64) 3 w' base (fun k_ => some k_ ≠ v0.ownBlock) v1 nl ∧ Below B W w' := by
  have hu := Try.underlying34
  have hn : reg = 3 ∧ 2 = (if reg = 3 then 2 else size) ∨ reg ≠ 3 ∧ size = (if reg = 3 then 2 else size) := by
    by_cases c : reg = 3
    · exact .inl ⟨c, (if_pos c).symm⟩
    · exact .inr ⟨c, (if_neg c).symm⟩
  have h5 : mode = 2 ∨ mode = 3 ∨ mode = 4 ∨ mode = 5 ∨ mode = 6 := by omega
  rcases h5 with rfl | rfl | rfl | rfl | rfl
  · rw [if_neg (by decide), if_neg (by decide)] at hl
    rw [if_pos rfl] at ha
    subst nl
    subst na
    exact impl_PlaceOf.p2 g v0 v1 l0 l1 x2 x3 x4 x5 x6 x7 size reg ext B base W hB hBb hk h0 h1 r0 r1
  · rw [if_pos rfl] at hl
    rw [if_neg (by decide), if_pos rfl] at ha
    subst nl
    subst na
    exact impl_PlaceOf.p3 g v0 v1 l0 l1 x2 x3 x4 x5 x6 x7 size reg ext (if reg = 3 then 2 else size) B base W hB hBb hk h0 h1 r0 r1 hn
  · rw [if_neg (by decide), if_pos rfl] at hl
    rw [if_neg (by decide), if_neg (by decide), if_pos rfl] at ha
    subst nl
    subst na
    exact impl_PlaceOf.p4 g v0 v1 l0 l1 x2 x3 x4 x5 x6 x7 size reg ext (if reg = 3 then 2 else size) B base W hB hBb hk h0 h1 r0 r1 hn
  · rw [if_neg (by decide), if_neg (by decide)] at hl
    rw [if_neg (by decide), if_neg (by decide), if_neg (by decide), if_pos rfl] at ha
    subst nl
    subst na
    exact impl_PlaceOf.p5 g v0 v1 l0 l1 x2 x3 x4 x5 x6 x7 size reg ext B base W hB hBb hk h0 h1 r0 r1
  · rw [if_neg (by decide), if_neg (by decide)] at hl
    rw [if_neg (by decide), if_neg (by decide), if_neg (by decide), if_neg (by decide)] at ha
    subst nl
    subst na
    exact impl_PlaceOf.p6 g v0 v1 l0 l1 x2 x3 x4 x5 x6 x7 size reg ext B base W hB hBb hk h0 h1 r0 r1
def impl_PlaceOf.f (l0_0 : List Int) (l0_1 : List Int) (a0_2 : Int) (a0_3 : Int) (a0_4 : Int) (a0_5 : Int) (a0_6 : Bool) (a0_7 : Bool) (a1 : Int) (a2_0 : Int) (a2_1 : Int) (a2_2 : Int) : Option (List Int × List Int × Int × Int × Int × Int × Bool × Bool × Int × Bool) := (impl_GoodRegs.f l0_0 l0_1 a0_2 a0_3 a0_4 a0_5 a0_6 a0_7).bind fun t => (if t = true then ((impl_isSize.f a1).bind fun u0 => (if u0 = true then ((impl_GoodOperand.f a2_0 a2_1 a2_2).bind fun u1 => (if u1 = true then ((impl_isMemory.f a2_0).bind fun u2 => (if u2 = true then ((impl_ownRegs.f l0_0 l0_1 a0_2 a0_3 a0_4 a0_5 a0_6 a0_7).bind fun o => (if 0 ≤ a2_1 ∧ a2_1 < (o.2.1.length : Int) then (some (o.1, (if a2_0 = 3 then o.2.1.set a2_1.toNat (Go.bits .and .i64 (wrap64 (rd o.2.1 a2_1 + (if a2_1 = 3 then 2 else a1))) 65535) else if a2_0 = 4 then o.2.1.set a2_1.toNat (Go.bits .and .i64 (wrap64 (rd o.2.1 a2_1 - (if a2_1 = 3 then 2 else a1))) 65535) else o.2.1), o.2.2.1, o.2.2.2.1, o.2.2.2.2.1, o.2.2.2.2.2.1, o.2.2.2.2.2.2.1, o.2.2.2.2.2.2.2, (if a2_0 = 2 then rd o.2.1 a2_1 else if a2_0 = 3 then rd o.2.1 a2_1 else if a2_0 = 4 then Go.bits .and .i64 (wrap64 (rd o.2.1 a2_1 - (if a2_1 = 3 then 2 else a1))) 65535 else if a2_0 = 5 then Go.bits .and .i64 (wrap64 (rd o.2.1 a2_1 + a2_2)) 65535 else a2_2), true)) else none)) else (some (([] : List Int), ([] : List Int), 0, 0, 0, 0, false, false, 0, false)))) else (some (([] : List Int), ([] : List Int), 0, 0, 0, 0, false, false, 0, false)))) else (some (([] : List Int), ([] : List Int), 0, 0, 0, 0, false, false, 0, false)))) else (some (([] : List Int), ([] : List Int), 0, 0, 0, 0, false, false, 0, false)))
set_option maxHeartbeats 4000000 in
set_option maxRecDepth 100000 in
theorem impl_PlaceOf.calls (A0_0 : Option Addr) (c0_0 : Nat) (l0_0 : List Int) (A0_1 : Option Addr) (c0_1 : Nat) (l0_1 : List Int) (a0_2 : Int) (a0_3 : Int) (a0_4 : Int) (a0_5 : Int) (a0_6 : Bool) (a0_7 : Bool) (a1 : Int) (a2_0 : Int) (a2_1 : Int) (a2_2 : Int) (r1 : List Int) (r2 : List Int) (r3 : Int) (r4 : Int) (r5 : Int) (r6 : Int) (r7 : Bool) (r8 : Bool) (r9 : Int) (r10 : Bool)  (w : World) (hr0_0 : Kd.C (Kd.int .i64) w A0_0 l0_0.length l0_0) (hc0_0 : l0_0.length ≤ c0_0) (hr0_1 : Kd.C (Kd.int .i64) w A0_1 l0_1.length l0_1) (hc0_1 : l0_1.length ≤ c0_1) (h : impl_PlaceOf.f l0_0 l0_1 a0_2 a0_3 a0_4 a0_5 a0_6 a0_7 a1 a2_0 a2_1 a2_2 = some (r1, r2, r3, r4, r5, r6, r7, r8, r9, r10)) :
    Calls Try.prog 28 #[.agg #[.slice A0_0 l0_0.length c0_0, .slice A0_1 l0_1.length c0_1, .int .i64 a0_2, .int .i64 a0_3, .int .i64 a0_4, .int .i64 a0_5, .bool a0_6, .bool a0_7], .int .i64 a1, .agg #[.int .i64 a2_0, .int .i64 a2_1, .int .i64 a2_2]] w fun e w' => ∃ v0_ v1_ : Value, e = .returned (.tuple #[.agg #[v0_, v1_, .int .i64 r3, .int .i64 r4, .int .i64 r5, .int .i64 r6, .bool r7, .bool r8], .int .i64 r9, .bool r10]) ∧ Kd.R (Kd.int .i64) 3 w' w.heap.size (fun k_ => some k_ ≠ (v1_ : Value).ownBlock) v0_ r1 ∧ Kd.R (Kd.int .i64) 3 w' w.heap.size (fun k_ => some k_ ≠ (v0_ : Value).ownBlock) v1_ r2 ∧ Below w.heap.size w w' := by
  have hu := Try.underlying34
  have hu2 := Try.underlying23
  unfold impl_PlaceOf.f at h
  obtain ⟨t, A0, H⟩ := Option.bind_eq_some_iff.mp h
  clear h
  have HG := Aside0.mk (fun (W : World) (hb : Below w.heap.size w W) => impl_GoodRegs.calls A0_0 c0_0 l0_0 A0_1 c0_1 l0_1 a0_2 a0_3 a0_4 a0_5 a0_6 a0_7 t W (Kd.C_below hr0_0 hb) hc0_0 (Kd.C_below hr0_1 hb) hc0_1 A0)
  have HO := Aside0.mk (fun r1 r2 r3 r4 r5 r6 r7 r8 (W : World) (hb : Below w.heap.size w W) h => impl_ownRegs.calls A0_0 c0_0 l0_0 A0_1 c0_1 l0_1 a0_2 a0_3 a0_4 a0_5 a0_6 a0_7 r1 r2 r3 r4 r5 r6 r7 r8 W (Kd.C_below hr0_0 hb) hc0_0 (Kd.C_below hr0_1 hb) hc0_1 h)
  clear hr0_0 hc0_0 hr0_1 hc0_1 A0
  cases t with
  | false =>
    clear HO
    simp only [Bool.false_eq_true, if_false, Option.some.injEq, Prod.mk.injEq] at H
    obtain ⟨rfl, rfl, rfl, rfl, rfl, rfl, rfl, rfl, rfl, rfl⟩ := H
    go_enter Try.func28, Try.ntmps28
    go_wp2_with (first | (go_at_call 50; refine (HG.out _ ?hB).mono ?_; (case hB => repeat (with_reducible first | exact Below.refl _ _ | apply below_alloc | apply pw_below_drewN | apply below_drew1)); rintro e w2 ⟨rfl, hb2⟩; have hB2 := Aside0.mk (below_step (w := w) (by repeat (with_reducible first | exact Below.refl _ _ | apply below_alloc)) hb2); have hk_p := (show w2.heap[w.heap.size]? = some (.cells #[.slice A0_0 l0_0.length c0_0, .slice A0_1 l0_1.length c0_1, .int .i64 a0_2, .int .i64 a0_3, .int .i64 a0_4, .int .i64 a0_5, .bool a0_6, .bool a0_7] 34 (0, 0)) from blk_below (by (with_reducible repeat (first | refine blk_drewN ?_ _ | refine blk_drew ?_)); refine blk_alloc ?_ _; refine blk_alloc ?_ _; have h_ := blk_new w (.cells #[.slice A0_0 l0_0.length c0_0, .slice A0_1 l0_1.length c0_1, .int .i64 a0_2, .int .i64 a0_3, .int .i64 a0_4, .int .i64 a0_5, .bool a0_6, .bool a0_7] 34 (0, 0)); simpa using h_) hb2); have hk_b := (show w2.heap[w.heap.size + 1]? = some (.cells #[.int .i64 a2_0, .int .i64 a2_1, .int .i64 a2_2] 23 (0, 0)) from blk_below (by (with_reducible repeat (first | refine blk_drewN ?_ _ | refine blk_drew ?_)); refine blk_alloc ?_ _; have h_ := blk_new (w.alloc (.cells #[.slice A0_0 l0_0.length c0_0, .slice A0_1 l0_1.length c0_1, .int .i64 a0_2, .int .i64 a0_3, .int .i64 a0_4, .int .i64 a0_5, .bool a0_6, .bool a0_7] 34 (0, 0))) (.cells #[.int .i64 a2_0, .int .i64 a2_1, .int .i64 a2_2] 23 (0, 0)); simpa using h_) hb2); have hk_q := (show w2.heap[w.heap.size + 2]? = some (.cells #[.slice none 0 0, .slice none 0 0, .int .i64 0, .int .i64 0, .int .i64 0, .int .i64 0, .bool false, .bool false] 34 (0, 0)) from blk_below (by (with_reducible repeat (first | refine blk_drewN ?_ _ | refine blk_drew ?_)); have h_ := blk_new ((w.alloc (.cells #[.slice A0_0 l0_0.length c0_0, .slice A0_1 l0_1.length c0_1, .int .i64 a0_2, .int .i64 a0_3, .int .i64 a0_4, .int .i64 a0_5, .bool a0_6, .bool a0_7] 34 (0, 0))).alloc (.cells #[.int .i64 a2_0, .int .i64 a2_1, .int .i64 a2_2] 23 (0, 0))) (.cells #[.slice none 0 0, .slice none 0 0, .int .i64 0, .int .i64 0, .int .i64 0, .int .i64 0, .bool false, .bool false] 34 (0, 0)); simpa using h_) hb2); have p0 : w2.cell? ⟨w.heap.size, 0, none⟩ = some (.slice A0_0 l0_0.length c0_0) := (blk_cell hk_p 0).trans rfl; have fp0 := blk_frozen hk_p 0; have p1 : w2.cell? ⟨w.heap.size, 1, none⟩ = some (.slice A0_1 l0_1.length c0_1) := (blk_cell hk_p 1).trans rfl; have fp1 := blk_frozen hk_p 1; have p2 : w2.cell? ⟨w.heap.size, 2, none⟩ = some (.int .i64 a0_2) := (blk_cell hk_p 2).trans rfl; have fp2 := blk_frozen hk_p 2; have p3 : w2.cell? ⟨w.heap.size, 3, none⟩ = some (.int .i64 a0_3) := (blk_cell hk_p 3).trans rfl; have fp3 := blk_frozen hk_p 3; have p4 : w2.cell? ⟨w.heap.size, 4, none⟩ = some (.int .i64 a0_4) := (blk_cell hk_p 4).trans rfl; have fp4 := blk_frozen hk_p 4; have p5 : w2.cell? ⟨w.heap.size, 5, none⟩ = some (.int .i64 a0_5) := (blk_cell hk_p 5).trans rfl; have fp5 := blk_frozen hk_p 5; have p6 : w2.cell? ⟨w.heap.size, 6, none⟩ = some (.bool a0_6) := (blk_cell hk_p 6).trans rfl; have fp6 := blk_frozen hk_p 6; have p7 : w2.cell? ⟨w.heap.size, 7, none⟩ = some (.bool a0_7) := (blk_cell hk_p 7).trans rfl; have fp7 := blk_frozen hk_p 7; have b0 : w2.cell? ⟨w.heap.size + 1, 0, none⟩ = some (.int .i64 a2_0) := (blk_cell hk_b 0).trans rfl; have fb0 := blk_frozen hk_b 0; have b1 : w2.cell? ⟨w.heap.size + 1, 1, none⟩ = some (.int .i64 a2_1) := (blk_cell hk_b 1).trans rfl; have fb1 := blk_frozen hk_b 1; have b2 : w2.cell? ⟨w.heap.size + 1, 2, none⟩ = some (.int .i64 a2_2) := (blk_cell hk_b 2).trans rfl; have fb2 := blk_frozen hk_b 2; have q0 : w2.cell? ⟨w.heap.size + 2, 0, none⟩ = some (.slice none 0 0) := (blk_cell hk_q 0).trans rfl; have fq0 := blk_frozen hk_q 0; have q1 : w2.cell? ⟨w.heap.size + 2, 1, none⟩ = some (.slice none 0 0) := (blk_cell hk_q 1).trans rfl; have fq1 := blk_frozen hk_q 1; have q2 : w2.cell? ⟨w.heap.size + 2, 2, none⟩ = some (.int .i64 0) := (blk_cell hk_q 2).trans rfl; have fq2 := blk_frozen hk_q 2; have q3 : w2.cell? ⟨w.heap.size + 2, 3, none⟩ = some (.int .i64 0) := (blk_cell hk_q 3).trans rfl; have fq3 := blk_frozen hk_q 3; have q4 : w2.cell? ⟨w.heap.size + 2, 4, none⟩ = some (.int .i64 0) := (blk_cell hk_q 4).trans rfl; have fq4 := blk_frozen hk_q 4; have q5 : w2.cell? ⟨w.heap.size + 2, 5, none⟩ = some (.int .i64 0) := (blk_cell hk_q 5).trans rfl; have fq5 := blk_frozen hk_q 5; have q6 : w2.cell? ⟨w.heap.size + 2, 6, none⟩ = some (.bool false) := (blk_cell hk_q 6).trans rfl; have fq6 := blk_frozen hk_q 6; have q7 : w2.cell? ⟨w.heap.size + 2, 7, none⟩ = some (.bool false) := (blk_cell hk_q 7).trans rfl; have fq7 := blk_frozen hk_q 7; have hz2 : w.heap.size + 2 < w2.heap.size := blk_lt hk_q; clear hb2) | go_in)
    refine bodyPost_ret (v := .tuple #[.agg #[.slice none 0 0, .slice none 0 0, .int .i64 0, .int .i64 0, .int .i64 0, .int .i64 0, .bool false, .bool false], .int .i64 0, .bool false]) (by simp [results, Try.results28, go_sem, q0, fq0, q1, fq1, q2, fq2, q3, fq3, q4, fq4, q5, fq5, q6, fq6, q7, fq7]) rfl ⟨.slice none 0 0, .slice none 0 0, rfl, Kd.R_nil _ _ _ _ _, Kd.R_nil _ _ _ _ _, ?_⟩
    repeat (first | (with_reducible first | apply below_alloc | apply pw_below_drewN | apply below_drew1) | refine below_set ?_ (by simp) | refine below_set ?_ (by omega))
    exact hB2.out
  | true =>
    rw [if_pos rfl] at H
    obtain ⟨u0, U0, H⟩ := Option.bind_eq_some_iff.mp H
    have HU0 := Aside0.mk (fun W => impl_isSize.calls a1 u0 W U0)
    cases u0 with
    | false =>
      clear HO U0
      simp only [Bool.false_eq_true, if_false, Option.some.injEq, Prod.mk.injEq] at H
      obtain ⟨rfl, rfl, rfl, rfl, rfl, rfl, rfl, rfl, rfl, rfl⟩ := H
      go_enter Try.func28, Try.ntmps28
      go_wp2_with (first | (go_at_call 50; refine (HG.out _ ?hB).mono ?_; (case hB => repeat (with_reducible first | exact Below.refl _ _ | apply below_alloc | apply pw_below_drewN | apply below_drew1)); rintro e w2 ⟨rfl, hb2⟩; have hB2 := Aside0.mk (below_step (w := w) (by repeat (with_reducible first | exact Below.refl _ _ | apply below_alloc)) hb2); have hk_p := (show w2.heap[w.heap.size]? = some (.cells #[.slice A0_0 l0_0.length c0_0, .slice A0_1 l0_1.length c0_1, .int .i64 a0_2, .int .i64 a0_3, .int .i64 a0_4, .int .i64 a0_5, .bool a0_6, .bool a0_7] 34 (0, 0)) from blk_below (by (with_reducible repeat (first | refine blk_drewN ?_ _ | refine blk_drew ?_)); refine blk_alloc ?_ _; refine blk_alloc ?_ _; have h_ := blk_new w (.cells #[.slice A0_0 l0_0.length c0_0, .slice A0_1 l0_1.length c0_1, .int .i64 a0_2, .int .i64 a0_3, .int .i64 a0_4, .int .i64 a0_5, .bool a0_6, .bool a0_7] 34 (0, 0)); simpa using h_) hb2); have hk_b := (show w2.heap[w.heap.size + 1]? = some (.cells #[.int .i64 a2_0, .int .i64 a2_1, .int .i64 a2_2] 23 (0, 0)) from blk_below (by (with_reducible repeat (first | refine blk_drewN ?_ _ | refine blk_drew ?_)); refine blk_alloc ?_ _; have h_ := blk_new (w.alloc (.cells #[.slice A0_0 l0_0.length c0_0, .slice A0_1 l0_1.length c0_1, .int .i64 a0_2, .int .i64 a0_3, .int .i64 a0_4, .int .i64 a0_5, .bool a0_6, .bool a0_7] 34 (0, 0))) (.cells #[.int .i64 a2_0, .int .i64 a2_1, .int .i64 a2_2] 23 (0, 0)); simpa using h_) hb2); have hk_q := (show w2.heap[w.heap.size + 2]? = some (.cells #[.slice none 0 0, .slice none 0 0, .int .i64 0, .int .i64 0, .int .i64 0, .int .i64 0, .bool false, .bool false] 34 (0, 0)) from blk_below (by (with_reducible repeat (first | refine blk_drewN ?_ _ | refine blk_drew ?_)); have h_ := blk_new ((w.alloc (.cells #[.slice A0_0 l0_0.length c0_0, .slice A0_1 l0_1.length c0_1, .int .i64 a0_2, .int .i64 a0_3, .int .i64 a0_4, .int .i64 a0_5, .bool a0_6, .bool a0_7] 34 (0, 0))).alloc (.cells #[.int .i64 a2_0, .int .i64 a2_1, .int .i64 a2_2] 23 (0, 0))) (.cells #[.slice none 0 0, .slice none 0 0, .int .i64 0, .int .i64 0, .int .i64 0, .int .i64 0, .bool false, .bool false] 34 (0, 0)); simpa using h_) hb2); have p0 : w2.cell? ⟨w.heap.size, 0, none⟩ = some (.slice A0_0 l0_0.length c0_0) := (blk_cell hk_p 0).trans rfl; have fp0 := blk_frozen hk_p 0; have p1 : w2.cell? ⟨w.heap.size, 1, none⟩ = some (.slice A0_1 l0_1.length c0_1) := (blk_cell hk_p 1).trans rfl; have fp1 := blk_frozen hk_p 1; have p2 : w2.cell? ⟨w.heap.size, 2, none⟩ = some (.int .i64 a0_2) := (blk_cell hk_p 2).trans rfl; have fp2 := blk_frozen hk_p 2; have p3 : w2.cell? ⟨w.heap.size, 3, none⟩ = some (.int .i64 a0_3) := (blk_cell hk_p 3).trans rfl; have fp3 := blk_frozen hk_p 3; have p4 : w2.cell? ⟨w.heap.size, 4, none⟩ = some (.int .i64 a0_4) := (blk_cell hk_p 4).trans rfl; have fp4 := blk_frozen hk_p 4; have p5 : w2.cell? ⟨w.heap.size, 5, none⟩ = some (.int .i64 a0_5) := (blk_cell hk_p 5).trans rfl; have fp5 := blk_frozen hk_p 5; have p6 : w2.cell? ⟨w.heap.size, 6, none⟩ = some (.bool a0_6) := (blk_cell hk_p 6).trans rfl; have fp6 := blk_frozen hk_p 6; have p7 : w2.cell? ⟨w.heap.size, 7, none⟩ = some (.bool a0_7) := (blk_cell hk_p 7).trans rfl; have fp7 := blk_frozen hk_p 7; have b0 : w2.cell? ⟨w.heap.size + 1, 0, none⟩ = some (.int .i64 a2_0) := (blk_cell hk_b 0).trans rfl; have fb0 := blk_frozen hk_b 0; have b1 : w2.cell? ⟨w.heap.size + 1, 1, none⟩ = some (.int .i64 a2_1) := (blk_cell hk_b 1).trans rfl; have fb1 := blk_frozen hk_b 1; have b2 : w2.cell? ⟨w.heap.size + 1, 2, none⟩ = some (.int .i64 a2_2) := (blk_cell hk_b 2).trans rfl; have fb2 := blk_frozen hk_b 2; have q0 : w2.cell? ⟨w.heap.size + 2, 0, none⟩ = some (.slice none 0 0) := (blk_cell hk_q 0).trans rfl; have fq0 := blk_frozen hk_q 0; have q1 : w2.cell? ⟨w.heap.size + 2, 1, none⟩ = some (.slice none 0 0) := (blk_cell hk_q 1).trans rfl; have fq1 := blk_frozen hk_q 1; have q2 : w2.cell? ⟨w.heap.size + 2, 2, none⟩ = some (.int .i64 0) := (blk_cell hk_q 2).trans rfl; have fq2 := blk_frozen hk_q 2; have q3 : w2.cell? ⟨w.heap.size + 2, 3, none⟩ = some (.int .i64 0) := (blk_cell hk_q 3).trans rfl; have fq3 := blk_frozen hk_q 3; have q4 : w2.cell? ⟨w.heap.size + 2, 4, none⟩ = some (.int .i64 0) := (blk_cell hk_q 4).trans rfl; have fq4 := blk_frozen hk_q 4; have q5 : w2.cell? ⟨w.heap.size + 2, 5, none⟩ = some (.int .i64 0) := (blk_cell hk_q 5).trans rfl; have fq5 := blk_frozen hk_q 5; have q6 : w2.cell? ⟨w.heap.size + 2, 6, none⟩ = some (.bool false) := (blk_cell hk_q 6).trans rfl; have fq6 := blk_frozen hk_q 6; have q7 : w2.cell? ⟨w.heap.size + 2, 7, none⟩ = some (.bool false) := (blk_cell hk_q 7).trans rfl; have fq7 := blk_frozen hk_q 7; have hz2 : w.heap.size + 2 < w2.heap.size := blk_lt hk_q; clear hb2) | (go_at_call 72; (with_reducible refine (HU0.out _).mono ?_); rintro e w_ ⟨rfl, ⟨nd0, rfl⟩⟩) | go_in)
      refine bodyPost_ret (v := .tuple #[.agg #[.slice none 0 0, .slice none 0 0, .int .i64 0, .int .i64 0, .int .i64 0, .int .i64 0, .bool false, .bool false], .int .i64 0, .bool false]) (by simp [results, Try.results28, go_sem, q0, fq0, q1, fq1, q2, fq2, q3, fq3, q4, fq4, q5, fq5, q6, fq6, q7, fq7]) rfl ⟨.slice none 0 0, .slice none 0 0, rfl, Kd.R_nil _ _ _ _ _, Kd.R_nil _ _ _ _ _, ?_⟩
      repeat (first | (with_reducible first | apply below_alloc | apply pw_below_drewN | apply below_drew1) | refine below_set ?_ (by simp) | refine below_set ?_ (by omega))
      exact hB2.out
    | true =>
      rw [if_pos rfl] at H
      obtain ⟨u1, U1, H⟩ := Option.bind_eq_some_iff.mp H
      have HU1 := Aside0.mk (fun W => impl_GoodOperand.calls a2_0 a2_1 a2_2 u1 W U1)
      cases u1 with
      | false =>
        clear HO U0 U1
        simp only [Bool.false_eq_true, if_false, Option.some.injEq, Prod.mk.injEq] at H
        obtain ⟨rfl, rfl, rfl, rfl, rfl, rfl, rfl, rfl, rfl, rfl⟩ := H
        go_enter Try.func28, Try.ntmps28
        go_wp2_with (first | (go_at_call 50; refine (HG.out _ ?hB).mono ?_; (case hB => repeat (with_reducible first | exact Below.refl _ _ | apply below_alloc | apply pw_below_drewN | apply below_drew1)); rintro e w2 ⟨rfl, hb2⟩; have hB2 := Aside0.mk (below_step (w := w) (by repeat (with_reducible first | exact Below.refl _ _ | apply below_alloc)) hb2); have hk_p := (show w2.heap[w.heap.size]? = some (.cells #[.slice A0_0 l0_0.length c0_0, .slice A0_1 l0_1.length c0_1, .int .i64 a0_2, .int .i64 a0_3, .int .i64 a0_4, .int .i64 a0_5, .bool a0_6, .bool a0_7] 34 (0, 0)) from blk_below (by (with_reducible repeat (first | refine blk_drewN ?_ _ | refine blk_drew ?_)); refine blk_alloc ?_ _; refine blk_alloc ?_ _; have h_ := blk_new w (.cells #[.slice A0_0 l0_0.length c0_0, .slice A0_1 l0_1.length c0_1, .int .i64 a0_2, .int .i64 a0_3, .int .i64 a0_4, .int .i64 a0_5, .bool a0_6, .bool a0_7] 34 (0, 0)); simpa using h_) hb2); have hk_b := (show w2.heap[w.heap.size + 1]? = some (.cells #[.int .i64 a2_0, .int .i64 a2_1, .int .i64 a2_2] 23 (0, 0)) from blk_below (by (with_reducible repeat (first | refine blk_drewN ?_ _ | refine blk_drew ?_)); refine blk_alloc ?_ _; have h_ := blk_new (w.alloc (.cells #[.slice A0_0 l0_0.length c0_0, .slice A0_1 l0_1.length c0_1, .int .i64 a0_2, .int .i64 a0_3, .int .i64 a0_4, .int .i64 a0_5, .bool a0_6, .bool a0_7] 34 (0, 0))) (.cells #[.int .i64 a2_0, .int .i64 a2_1, .int .i64 a2_2] 23 (0, 0)); simpa using h_) hb2); have hk_q := (show w2.heap[w.heap.size + 2]? = some (.cells #[.slice none 0 0, .slice none 0 0, .int .i64 0, .int .i64 0, .int .i64 0, .int .i64 0, .bool false, .bool false] 34 (0, 0)) from blk_below (by (with_reducible repeat (first | refine blk_drewN ?_ _ | refine blk_drew ?_)); have h_ := blk_new ((w.alloc (.cells #[.slice A0_0 l0_0.length c0_0, .slice A0_1 l0_1.length c0_1, .int .i64 a0_2, .int .i64 a0_3, .int .i64 a0_4, .int .i64 a0_5, .bool a0_6, .bool a0_7] 34 (0, 0))).alloc (.cells #[.int .i64 a2_0, .int .i64 a2_1, .int .i64 a2_2] 23 (0, 0))) (.cells #[.slice none 0 0, .slice none 0 0, .int .i64 0, .int .i64 0, .int .i64 0, .int .i64 0, .bool false, .bool false] 34 (0, 0)); simpa using h_) hb2); have p0 : w2.cell? ⟨w.heap.size, 0, none⟩ = some (.slice A0_0 l0_0.length c0_0) := (blk_cell hk_p 0).trans rfl; have fp0 := blk_frozen hk_p 0; have p1 : w2.cell? ⟨w.heap.size, 1, none⟩ = some (.slice A0_1 l0_1.length c0_1) := (blk_cell hk_p 1).trans rfl; have fp1 := blk_frozen hk_p 1; have p2 : w2.cell? ⟨w.heap.size, 2, none⟩ = some (.int .i64 a0_2) := (blk_cell hk_p 2).trans rfl; have fp2 := blk_frozen hk_p 2; have p3 : w2.cell? ⟨w.heap.size, 3, none⟩ = some (.int .i64 a0_3) := (blk_cell hk_p 3).trans rfl; have fp3 := blk_frozen hk_p 3; have p4 : w2.cell? ⟨w.heap.size, 4, none⟩ = some (.int .i64 a0_4) := (blk_cell hk_p 4).trans rfl; have fp4 := blk_frozen hk_p 4; have p5 : w2.cell? ⟨w.heap.size, 5, none⟩ = some (.int .i64 a0_5) := (blk_cell hk_p 5).trans rfl; have fp5 := blk_frozen hk_p 5; have p6 : w2.cell? ⟨w.heap.size, 6, none⟩ = some (.bool a0_6) := (blk_cell hk_p 6).trans rfl; have fp6 := blk_frozen hk_p 6; have p7 : w2.cell? ⟨w.heap.size, 7, none⟩ = some (.bool a0_7) := (blk_cell hk_p 7).trans rfl; have fp7 := blk_frozen hk_p 7; have b0 : w2.cell? ⟨w.heap.size + 1, 0, none⟩ = some (.int .i64 a2_0) := (blk_cell hk_b 0).trans rfl; have fb0 := blk_frozen hk_b 0; have b1 : w2.cell? ⟨w.heap.size + 1, 1, none⟩ = some (.int .i64 a2_1) := (blk_cell hk_b 1).trans rfl; have fb1 := blk_frozen hk_b 1; have b2 : w2.cell? ⟨w.heap.size + 1, 2, none⟩ = some (.int .i64 a2_2) := (blk_cell hk_b 2).trans rfl; have fb2 := blk_frozen hk_b 2; have q0 : w2.cell? ⟨w.heap.size + 2, 0, none⟩ = some (.slice none 0 0) := (blk_cell hk_q 0).trans rfl; have fq0 := blk_frozen hk_q 0; have q1 : w2.cell? ⟨w.heap.size + 2, 1, none⟩ = some (.slice none 0 0) := (blk_cell hk_q 1).trans rfl; have fq1 := blk_frozen hk_q 1; have q2 : w2.cell? ⟨w.heap.size + 2, 2, none⟩ = some (.int .i64 0) := (blk_cell hk_q 2).trans rfl; have fq2 := blk_frozen hk_q 2; have q3 : w2.cell? ⟨w.heap.size + 2, 3, none⟩ = some (.int .i64 0) := (blk_cell hk_q 3).trans rfl; have fq3 := blk_frozen hk_q 3; have q4 : w2.cell? ⟨w.heap.size + 2, 4, none⟩ = some (.int .i64 0) := (blk_cell hk_q 4).trans rfl; have fq4 := blk_frozen hk_q 4; have q5 : w2.cell? ⟨w.heap.size + 2, 5, none⟩ = some (.int .i64 0) := (blk_cell hk_q 5).trans rfl; have fq5 := blk_frozen hk_q 5; have q6 : w2.cell? ⟨w.heap.size + 2, 6, none⟩ = some (.bool false) := (blk_cell hk_q 6).trans rfl; have fq6 := blk_frozen hk_q 6; have q7 : w2.cell? ⟨w.heap.size + 2, 7, none⟩ = some (.bool false) := (blk_cell hk_q 7).trans rfl; have fq7 := blk_frozen hk_q 7; have hz2 : w.heap.size + 2 < w2.heap.size := blk_lt hk_q; clear hb2) | (go_at_call 72; (with_reducible refine (HU0.out _).mono ?_); rintro e w_ ⟨rfl, ⟨nd0, rfl⟩⟩) | (go_at_call 73; (with_reducible refine (HU1.out _).mono ?_); rintro e w3 ⟨rfl, hb3⟩; replace hB2 := Aside0.mk (below_step (w := w) (by repeat (first | (with_reducible first | apply below_alloc | apply pw_below_drewN | apply below_drew1) | exact hB2.out)) hb3); clear p0 fp0 p1 fp1 p2 fp2 p3 fp3 p4 fp4 p5 fp5 p6 fp6 p7 fp7; replace hk_p := (show w3.heap[w.heap.size]? = some (.cells #[.slice A0_0 l0_0.length c0_0, .slice A0_1 l0_1.length c0_1, .int .i64 a0_2, .int .i64 a0_3, .int .i64 a0_4, .int .i64 a0_5, .bool a0_6, .bool a0_7] 34 (0, 0)) from blk_below (by (with_reducible repeat (first | refine blk_drewN ?_ _ | refine blk_drew ?_ | refine blk_alloc ?_ _)); exact hk_p) hb3); clear b0 fb0 b1 fb1 b2 fb2; replace hk_b := (show w3.heap[w.heap.size + 1]? = some (.cells #[.int .i64 a2_0, .int .i64 a2_1, .int .i64 a2_2] 23 (0, 0)) from blk_below (by (with_reducible repeat (first | refine blk_drewN ?_ _ | refine blk_drew ?_ | refine blk_alloc ?_ _)); exact hk_b) hb3); clear q0 fq0 q1 fq1 q2 fq2 q3 fq3 q4 fq4 q5 fq5 q6 fq6 q7 fq7; replace hk_q := (show w3.heap[w.heap.size + 2]? = some (.cells #[.slice none 0 0, .slice none 0 0, .int .i64 0, .int .i64 0, .int .i64 0, .int .i64 0, .bool false, .bool false] 34 (0, 0)) from blk_below (by (with_reducible repeat (first | refine blk_drewN ?_ _ | refine blk_drew ?_ | refine blk_alloc ?_ _)); exact hk_q) hb3); have p0 : w3.cell? ⟨w.heap.size, 0, none⟩ = some (.slice A0_0 l0_0.length c0_0) := (blk_cell hk_p 0).trans rfl; have fp0 := blk_frozen hk_p 0; have p1 : w3.cell? ⟨w.heap.size, 1, none⟩ = some (.slice A0_1 l0_1.length c0_1) := (blk_cell hk_p 1).trans rfl; have fp1 := blk_frozen hk_p 1; have p2 : w3.cell? ⟨w.heap.size, 2, none⟩ = some (.int .i64 a0_2) := (blk_cell hk_p 2).trans rfl; have fp2 := blk_frozen hk_p 2; have p3 : w3.cell? ⟨w.heap.size, 3, none⟩ = some (.int .i64 a0_3) := (blk_cell hk_p 3).trans rfl; have fp3 := blk_frozen hk_p 3; have p4 : w3.cell? ⟨w.heap.size, 4, none⟩ = some (.int .i64 a0_4) := (blk_cell hk_p 4).trans rfl; have fp4 := blk_frozen hk_p 4; have p5 : w3.cell? ⟨w.heap.size, 5, none⟩ = some (.int .i64 a0_5) := (blk_cell hk_p 5).trans rfl; have fp5 := blk_frozen hk_p 5; have p6 : w3.cell? ⟨w.heap.size, 6, none⟩ = some (.bool a0_6) := (blk_cell hk_p 6).trans rfl; have fp6 := blk_frozen hk_p 6; have p7 : w3.cell? ⟨w.heap.size, 7, none⟩ = some (.bool a0_7) := (blk_cell hk_p 7).trans rfl; have fp7 := blk_frozen hk_p 7; have b0 : w3.cell? ⟨w.heap.size + 1, 0, none⟩ = some (.int .i64 a2_0) := (blk_cell hk_b 0).trans rfl; have fb0 := blk_frozen hk_b 0; have b1 : w3.cell? ⟨w.heap.size + 1, 1, none⟩ = some (.int .i64 a2_1) := (blk_cell hk_b 1).trans rfl; have fb1 := blk_frozen hk_b 1; have b2 : w3.cell? ⟨w.heap.size + 1, 2, none⟩ = some (.int .i64 a2_2) := (blk_cell hk_b 2).trans rfl; have fb2 := blk_frozen hk_b 2; have q0 : w3.cell? ⟨w.heap.size + 2, 0, none⟩ = some (.slice none 0 0) := (blk_cell hk_q 0).trans rfl; have fq0 := blk_frozen hk_q 0; have q1 : w3.cell? ⟨w.heap.size + 2, 1, none⟩ = some (.slice none 0 0) := (blk_cell hk_q 1).trans rfl; have fq1 := blk_frozen hk_q 1; have q2 : w3.cell? ⟨w.heap.size + 2, 2, none⟩ = some (.int .i64 0) := (blk_cell hk_q 2).trans rfl; have fq2 := blk_frozen hk_q 2; have q3 : w3.cell? ⟨w.heap.size + 2, 3, none⟩ = some (.int .i64 0) := (blk_cell hk_q 3).trans rfl; have fq3 := blk_frozen hk_q 3; have q4 : w3.cell? ⟨w.heap.size + 2, 4, none⟩ = some (.int .i64 0) := (blk_cell hk_q 4).trans rfl; have fq4 := blk_frozen hk_q 4; have q5 : w3.cell? ⟨w.heap.size + 2, 5, none⟩ = some (.int .i64 0) := (blk_cell hk_q 5).trans rfl; have fq5 := blk_frozen hk_q 5; have q6 : w3.cell? ⟨w.heap.size + 2, 6, none⟩ = some (.bool false) := (blk_cell hk_q 6).trans rfl; have fq6 := blk_frozen hk_q 6; have q7 : w3.cell? ⟨w.heap.size + 2, 7, none⟩ = some (.bool false) := (blk_cell hk_q 7).trans rfl; have fq7 := blk_frozen hk_q 7; replace hz2 : w.heap.size + 2 < w3.heap.size := blk_lt hk_q; clear hb3) | go_in)
        refine bodyPost_ret (v := .tuple #[.agg #[.slice none 0 0, .slice none 0 0, .int .i64 0, .int .i64 0, .int .i64 0, .int .i64 0, .bool false, .bool false], .int .i64 0, .bool false]) (by simp [results, Try.results28, go_sem, q0, fq0, q1, fq1, q2, fq2, q3, fq3, q4, fq4, q5, fq5, q6, fq6, q7, fq7]) rfl ⟨.slice none 0 0, .slice none 0 0, rfl, Kd.R_nil _ _ _ _ _, Kd.R_nil _ _ _ _ _, ?_⟩
        repeat (first | (with_reducible first | apply below_alloc | apply pw_below_drewN | apply below_drew1) | refine below_set ?_ (by simp) | refine below_set ?_ (by omega))
        exact hB2.out
      | true =>
        rw [if_pos rfl] at H
        obtain ⟨u2, U2, H⟩ := Option.bind_eq_some_iff.mp H
        have HU2 := Aside0.mk (fun W => impl_isMemory.calls a2_0 u2 W U2)
        cases u2 with
        | false =>
          clear HO U0 U1 U2
          simp only [Bool.false_eq_true, if_false, Option.some.injEq, Prod.mk.injEq] at H
          obtain ⟨rfl, rfl, rfl, rfl, rfl, rfl, rfl, rfl, rfl, rfl⟩ := H
          go_enter Try.func28, Try.ntmps28
          go_wp2_with (first | (go_at_call 50; refine (HG.out _ ?hB).mono ?_; (case hB => repeat (with_reducible first | exact Below.refl _ _ | apply below_alloc | apply pw_below_drewN | apply below_drew1)); rintro e w2 ⟨rfl, hb2⟩; have hB2 := Aside0.mk (below_step (w := w) (by repeat (with_reducible first | exact Below.refl _ _ | apply below_alloc)) hb2); have hk_p := (show w2.heap[w.heap.size]? = some (.cells #[.slice A0_0 l0_0.length c0_0, .slice A0_1 l0_1.length c0_1, .int .i64 a0_2, .int .i64 a0_3, .int .i64 a0_4, .int .i64 a0_5, .bool a0_6, .bool a0_7] 34 (0, 0)) from blk_below (by (with_reducible repeat (first | refine blk_drewN ?_ _ | refine blk_drew ?_)); refine blk_alloc ?_ _; refine blk_alloc ?_ _; have h_ := blk_new w (.cells #[.slice A0_0 l0_0.length c0_0, .slice A0_1 l0_1.length c0_1, .int .i64 a0_2, .int .i64 a0_3, .int .i64 a0_4, .int .i64 a0_5, .bool a0_6, .bool a0_7] 34 (0, 0)); simpa using h_) hb2); have hk_b := (show w2.heap[w.heap.size + 1]? = some (.cells #[.int .i64 a2_0, .int .i64 a2_1, .int .i64 a2_2] 23 (0, 0)) from blk_below (by (with_reducible repeat (first | refine blk_drewN ?_ _ | refine blk_drew ?_)); refine blk_alloc ?_ _; have h_ := blk_new (w.alloc (.cells #[.slice A0_0 l0_0.length c0_0, .slice A0_1 l0_1.length c0_1, .int .i64 a0_2, .int .i64 a0_3, .int .i64 a0_4, .int .i64 a0_5, .bool a0_6, .bool a0_7] 34 (0, 0))) (.cells #[.int .i64 a2_0, .int .i64 a2_1, .int .i64 a2_2] 23 (0, 0)); simpa using h_) hb2); have hk_q := (show w2.heap[w.heap.size + 2]? = some (.cells #[.slice none 0 0, .slice none 0 0, .int .i64 0, .int .i64 0, .int .i64 0, .int .i64 0, .bool false, .bool false] 34 (0, 0)) from blk_below (by (with_reducible repeat (first | refine blk_drewN ?_ _ | refine blk_drew ?_)); have h_ := blk_new ((w.alloc (.cells #[.slice A0_0 l0_0.length c0_0, .slice A0_1 l0_1.length c0_1, .int .i64 a0_2, .int .i64 a0_3, .int .i64 a0_4, .int .i64 a0_5, .bool a0_6, .bool a0_7] 34 (0, 0))).alloc (.cells #[.int .i64 a2_0, .int .i64 a2_1, .int .i64 a2_2] 23 (0, 0))) (.cells #[.slice none 0 0, .slice none 0 0, .int .i64 0, .int .i64 0, .int .i64 0, .int .i64 0, .bool false, .bool false] 34 (0, 0)); simpa using h_) hb2); have p0 : w2.cell? ⟨w.heap.size, 0, none⟩ = some (.slice A0_0 l0_0.length c0_0) := (blk_cell hk_p 0).trans rfl; have fp0 := blk_frozen hk_p 0; have p1 : w2.cell? ⟨w.heap.size, 1, none⟩ = some (.slice A0_1 l0_1.length c0_1) := (blk_cell hk_p 1).trans rfl; have fp1 := blk_frozen hk_p 1; have p2 : w2.cell? ⟨w.heap.size, 2, none⟩ = some (.int .i64 a0_2) := (blk_cell hk_p 2).trans rfl; have fp2 := blk_frozen hk_p 2; have p3 : w2.cell? ⟨w.heap.size, 3, none⟩ = some (.int .i64 a0_3) := (blk_cell hk_p 3).trans rfl; have fp3 := blk_frozen hk_p 3; have p4 : w2.cell? ⟨w.heap.size, 4, none⟩ = some (.int .i64 a0_4) := (blk_cell hk_p 4).trans rfl; have fp4 := blk_frozen hk_p 4; have p5 : w2.cell? ⟨w.heap.size, 5, none⟩ = some (.int .i64 a0_5) := (blk_cell hk_p 5).trans rfl; have fp5 := blk_frozen hk_p 5; have p6 : w2.cell? ⟨w.heap.size, 6, none⟩ = some (.bool a0_6) := (blk_cell hk_p 6).trans rfl; have fp6 := blk_frozen hk_p 6; have p7 : w2.cell? ⟨w.heap.size, 7, none⟩ = some (.bool a0_7) := (blk_cell hk_p 7).trans rfl; have fp7 := blk_frozen hk_p 7; have b0 : w2.cell? ⟨w.heap.size + 1, 0, none⟩ = some (.int .i64 a2_0) := (blk_cell hk_b 0).trans rfl; have fb0 := blk_frozen hk_b 0; have b1 : w2.cell? ⟨w.heap.size + 1, 1, none⟩ = some (.int .i64 a2_1) := (blk_cell hk_b 1).trans rfl; have fb1 := blk_frozen hk_b 1; have b2 : w2.cell? ⟨w.heap.size + 1, 2, none⟩ = some (.int .i64 a2_2) := (blk_cell hk_b 2).trans rfl; have fb2 := blk_frozen hk_b 2; have q0 : w2.cell? ⟨w.heap.size + 2, 0, none⟩ = some (.slice none 0 0) := (blk_cell hk_q 0).trans rfl; have fq0 := blk_frozen hk_q 0; have q1 : w2.cell? ⟨w.heap.size + 2, 1, none⟩ = some (.slice none 0 0) := (blk_cell hk_q 1).trans rfl; have fq1 := blk_frozen hk_q 1; have q2 : w2.cell? ⟨w.heap.size + 2, 2, none⟩ = some (.int .i64 0) := (blk_cell hk_q 2).trans rfl; have fq2 := blk_frozen hk_q 2; have q3 : w2.cell? ⟨w.heap.size + 2, 3, none⟩ = some (.int .i64 0) := (blk_cell hk_q 3).trans rfl; have fq3 := blk_frozen hk_q 3; have q4 : w2.cell? ⟨w.heap.size + 2, 4, none⟩ = some (.int .i64 0) := (blk_cell hk_q 4).trans rfl; have fq4 := blk_frozen hk_q 4; have q5 : w2.cell? ⟨w.heap.size + 2, 5, none⟩ = some (.int .i64 0) := (blk_cell hk_q 5).trans rfl; have fq5 := blk_frozen hk_q 5; have q6 : w2.cell? ⟨w.heap.size + 2, 6, none⟩ = some (.bool false) := (blk_cell hk_q 6).trans rfl; have fq6 := blk_frozen hk_q 6; have q7 : w2.cell? ⟨w.heap.size + 2, 7, none⟩ = some (.bool false) := (blk_cell hk_q 7).trans rfl; have fq7 := blk_frozen hk_q 7; have hz2 : w.heap.size + 2 < w2.heap.size := blk_lt hk_q; clear hb2) | (go_at_call 72; (with_reducible refine (HU0.out _).mono ?_); rintro e w_ ⟨rfl, ⟨nd0, rfl⟩⟩) | (go_at_call 73; (with_reducible refine (HU1.out _).mono ?_); rintro e w3 ⟨rfl, hb3⟩; replace hB2 := Aside0.mk (below_step (w := w) (by repeat (first | (with_reducible first | apply below_alloc | apply pw_below_drewN | apply below_drew1) | exact hB2.out)) hb3); clear p0 fp0 p1 fp1 p2 fp2 p3 fp3 p4 fp4 p5 fp5 p6 fp6 p7 fp7; replace hk_p := (show w3.heap[w.heap.size]? = some (.cells #[.slice A0_0 l0_0.length c0_0, .slice A0_1 l0_1.length c0_1, .int .i64 a0_2, .int .i64 a0_3, .int .i64 a0_4, .int .i64 a0_5, .bool a0_6, .bool a0_7] 34 (0, 0)) from blk_below (by (with_reducible repeat (first | refine blk_drewN ?_ _ | refine blk_drew ?_ | refine blk_alloc ?_ _)); exact hk_p) hb3); clear b0 fb0 b1 fb1 b2 fb2; replace hk_b := (show w3.heap[w.heap.size + 1]? = some (.cells #[.int .i64 a2_0, .int .i64 a2_1, .int .i64 a2_2] 23 (0, 0)) from blk_below (by (with_reducible repeat (first | refine blk_drewN ?_ _ | refine blk_drew ?_ | refine blk_alloc ?_ _)); exact hk_b) hb3); clear q0 fq0 q1 fq1 q2 fq2 q3 fq3 q4 fq4 q5 fq5 q6 fq6 q7 fq7; replace hk_q := (show w3.heap[w.heap.size + 2]? = some (.cells #[.slice none 0 0, .slice none 0 0, .int .i64 0, .int .i64 0, .int .i64 0, .int .i64 0, .bool false, .bool false] 34 (0, 0)) from blk_below (by (with_reducible repeat (first | refine blk_drewN ?_ _ | refine blk_drew ?_ | refine blk_alloc ?_ _)); exact hk_q) hb3); have p0 : w3.cell? ⟨w.heap.size, 0, none⟩ = some (.slice A0_0 l0_0.length c0_0) := (blk_cell hk_p 0).trans rfl; have fp0 := blk_frozen hk_p 0; have p1 : w3.cell? ⟨w.heap.size, 1, none⟩ = some (.slice A0_1 l0_1.length c0_1) := (blk_cell hk_p 1).trans rfl; have fp1 := blk_frozen hk_p 1; have p2 : w3.cell? ⟨w.heap.size, 2, none⟩ = some (.int .i64 a0_2) := (blk_cell hk_p 2).trans rfl; have fp2 := blk_frozen hk_p 2; have p3 : w3.cell? ⟨w.heap.size, 3, none⟩ = some (.int .i64 a0_3) := (blk_cell hk_p 3).trans rfl; have fp3 := blk_frozen hk_p 3; have p4 : w3.cell? ⟨w.heap.size, 4, none⟩ = some (.int .i64 a0_4) := (blk_cell hk_p 4).trans rfl; have fp4 := blk_frozen hk_p 4; have p5 : w3.cell? ⟨w.heap.size, 5, none⟩ = some (.int .i64 a0_5) := (blk_cell hk_p 5).trans rfl; have fp5 := blk_frozen hk_p 5; have p6 : w3.cell? ⟨w.heap.size, 6, none⟩ = some (.bool a0_6) := (blk_cell hk_p 6).trans rfl; have fp6 := blk_frozen hk_p 6; have p7 : w3.cell? ⟨w.heap.size, 7, none⟩ = some (.bool a0_7) := (blk_cell hk_p 7).trans rfl; have fp7 := blk_frozen hk_p 7; have b0 : w3.cell? ⟨w.heap.size + 1, 0, none⟩ = some (.int .i64 a2_0) := (blk_cell hk_b 0).trans rfl; have fb0 := blk_frozen hk_b 0; have b1 : w3.cell? ⟨w.heap.size + 1, 1, none⟩ = some (.int .i64 a2_1) := (blk_cell hk_b 1).trans rfl; have fb1 := blk_frozen hk_b 1; have b2 : w3.cell? ⟨w.heap.size + 1, 2, none⟩ = some (.int .i64 a2_2) := (blk_cell hk_b 2).trans rfl; have fb2 := blk_frozen hk_b 2; have q0 : w3.cell? ⟨w.heap.size + 2, 0, none⟩ = some (.slice none 0 0) := (blk_cell hk_q 0).trans rfl; have fq0 := blk_frozen hk_q 0; have q1 : w3.cell? ⟨w.heap.size + 2, 1, none⟩ = some (.slice none 0 0) := (blk_cell hk_q 1).trans rfl; have fq1 := blk_frozen hk_q 1; have q2 : w3.cell? ⟨w.heap.size + 2, 2, none⟩ = some (.int .i64 0) := (blk_cell hk_q 2).trans rfl; have fq2 := blk_frozen hk_q 2; have q3 : w3.cell? ⟨w.heap.size + 2, 3, none⟩ = some (.int .i64 0) := (blk_cell hk_q 3).trans rfl; have fq3 := blk_frozen hk_q 3; have q4 : w3.cell? ⟨w.heap.size + 2, 4, none⟩ = some (.int .i64 0) := (blk_cell hk_q 4).trans rfl; have fq4 := blk_frozen hk_q 4; have q5 : w3.cell? ⟨w.heap.size + 2, 5, none⟩ = some (.int .i64 0) := (blk_cell hk_q 5).trans rfl; have fq5 := blk_frozen hk_q 5; have q6 : w3.cell? ⟨w.heap.size + 2, 6, none⟩ = some (.bool false) := (blk_cell hk_q 6).trans rfl; have fq6 := blk_frozen hk_q 6; have q7 : w3.cell? ⟨w.heap.size + 2, 7, none⟩ = some (.bool false) := (blk_cell hk_q 7).trans rfl; have fq7 := blk_frozen hk_q 7; replace hz2 : w.heap.size + 2 < w3.heap.size := blk_lt hk_q; clear hb3) | (go_at_call 74; (with_reducible refine (HU2.out _).mono ?_); rintro e w_ ⟨rfl, ⟨nd2, rfl⟩⟩) | go_in)
          refine bodyPost_ret (v := .tuple #[.agg #[.slice none 0 0, .slice none 0 0, .int .i64 0, .int .i64 0, .int .i64 0, .int .i64 0, .bool false, .bool false], .int .i64 0, .bool false]) (by simp [results, Try.results28, go_sem, q0, fq0, q1, fq1, q2, fq2, q3, fq3, q4, fq4, q5, fq5, q6, fq6, q7, fq7]) rfl ⟨.slice none 0 0, .slice none 0 0, rfl, Kd.R_nil _ _ _ _ _, Kd.R_nil _ _ _ _ _, ?_⟩
          repeat (first | (with_reducible first | apply below_alloc | apply pw_below_drewN | apply below_drew1) | refine below_set ?_ (by simp) | refine below_set ?_ (by omega))
          exact hB2.out
        | true =>
          rw [if_pos rfl] at H
          obtain ⟨o, A2, H⟩ := Option.bind_eq_some_iff.mp H
          obtain ⟨o1, o2, o3, o4, o5, o6, o7, o8⟩ := o
          have HO2 := Aside0.mk (fun (W : World) (hb : Below w.heap.size w W) => HO.out o1 o2 o3 o4 o5 o6 o7 o8 W hb A2)
          clear HO
          by_cases g : 0 ≤ a2_1 ∧ a2_1 < (o2.length : Int)
          · rw [if_pos g] at H
            have g0 := Aside0.mk g.1
            have g1 := Aside0.mk g.2
            clear g
            have hm : 2 ≤ a2_0 ∧ a2_0 ≤ 6 := by
              unfold impl_isMemory.f impl_within.f at U2
              by_cases c : a2_0 ≥ 2
              · rw [if_pos c] at U2
                exact ⟨c, of_decide_eq_true (Option.some.inj U2)⟩
              · rw [if_neg c] at U2
                exact absurd U2 (by simp)
            obtain ⟨nl, hl⟩ : ∃ x, x = (if a2_0 = 3 then o2.set a2_1.toNat (Go.bits .and .i64 (wrap64 (rd o2 a2_1 + (if a2_1 = 3 then 2 else a1))) 65535) else if a2_0 = 4 then o2.set a2_1.toNat (Go.bits .and .i64 (wrap64 (rd o2 a2_1 - (if a2_1 = 3 then 2 else a1))) 65535) else o2) := ⟨_, rfl⟩
            obtain ⟨na, hna⟩ : ∃ x, x = (if a2_0 = 2 then rd o2 a2_1 else if a2_0 = 3 then rd o2 a2_1 else if a2_0 = 4 then Go.bits .and .i64 (wrap64 (rd o2 a2_1 - (if a2_1 = 3 then 2 else a1))) 65535 else if a2_0 = 5 then Go.bits .and .i64 (wrap64 (rd o2 a2_1 + a2_2)) 65535 else a2_2) := ⟨_, rfl⟩
            simp only [← hl, ← hna] at H
            have HM := Aside0.mk (fun (g : Nat) (V0 V1 : Value) (B base : Nat) (W : World) m1 m2 m3 m4 m5 => impl_PlaceOf.place g V0 V1 o1 o2 o3 o4 o5 o6 o7 o8 a1 a2_1 a2_2 a2_0 nl na B base W m1 m2 m3 m4 m5 g0.out g1.out hm hl hna)
            clear hl hna hm
            simp only [Option.some.injEq, Prod.mk.injEq] at H
            obtain ⟨rfl, rfl, rfl, rfl, rfl, rfl, rfl, rfl, rfl, rfl⟩ := H
            go_enter Try.func28, Try.ntmps28
            go_wp2_with (first | (go_at_call 50; refine (HG.out _ ?hB).mono ?_; (case hB => repeat (with_reducible first | exact Below.refl _ _ | apply below_alloc | apply pw_below_drewN | apply below_drew1)); rintro e w2 ⟨rfl, hb2⟩; have hB2 := Aside0.mk (below_step (w := w) (by repeat (with_reducible first | exact Below.refl _ _ | apply below_alloc)) hb2); have hk_p := (show w2.heap[w.heap.size]? = some (.cells #[.slice A0_0 l0_0.length c0_0, .slice A0_1 l0_1.length c0_1, .int .i64 a0_2, .int .i64 a0_3, .int .i64 a0_4, .int .i64 a0_5, .bool a0_6, .bool a0_7] 34 (0, 0)) from blk_below (by (with_reducible repeat (first | refine blk_drewN ?_ _ | refine blk_drew ?_)); refine blk_alloc ?_ _; refine blk_alloc ?_ _; have h_ := blk_new w (.cells #[.slice A0_0 l0_0.length c0_0, .slice A0_1 l0_1.length c0_1, .int .i64 a0_2, .int .i64 a0_3, .int .i64 a0_4, .int .i64 a0_5, .bool a0_6, .bool a0_7] 34 (0, 0)); simpa using h_) hb2); have hk_b := (show w2.heap[w.heap.size + 1]? = some (.cells #[.int .i64 a2_0, .int .i64 a2_1, .int .i64 a2_2] 23 (0, 0)) from blk_below (by (with_reducible repeat (first | refine blk_drewN ?_ _ | refine blk_drew ?_)); refine blk_alloc ?_ _; have h_ := blk_new (w.alloc (.cells #[.slice A0_0 l0_0.length c0_0, .slice A0_1 l0_1.length c0_1, .int .i64 a0_2, .int .i64 a0_3, .int .i64 a0_4, .int .i64 a0_5, .bool a0_6, .bool a0_7] 34 (0, 0))) (.cells #[.int .i64 a2_0, .int .i64 a2_1, .int .i64 a2_2] 23 (0, 0)); simpa using h_) hb2); have hk_q := (show w2.heap[w.heap.size + 2]? = some (.cells #[.slice none 0 0, .slice none 0 0, .int .i64 0, .int .i64 0, .int .i64 0, .int .i64 0, .bool false, .bool false] 34 (0, 0)) from blk_below (by (with_reducible repeat (first | refine blk_drewN ?_ _ | refine blk_drew ?_)); have h_ := blk_new ((w.alloc (.cells #[.slice A0_0 l0_0.length c0_0, .slice A0_1 l0_1.length c0_1, .int .i64 a0_2, .int .i64 a0_3, .int .i64 a0_4, .int .i64 a0_5, .bool a0_6, .bool a0_7] 34 (0, 0))).alloc (.cells #[.int .i64 a2_0, .int .i64 a2_1, .int .i64 a2_2] 23 (0, 0))) (.cells #[.slice none 0 0, .slice none 0 0, .int .i64 0, .int .i64 0, .int .i64 0, .int .i64 0, .bool false, .bool false] 34 (0, 0)); simpa using h_) hb2); have p0 : w2.cell? ⟨w.heap.size, 0, none⟩ = some (.slice A0_0 l0_0.length c0_0) := (blk_cell hk_p 0).trans rfl; have fp0 := blk_frozen hk_p 0; have p1 : w2.cell? ⟨w.heap.size, 1, none⟩ = some (.slice A0_1 l0_1.length c0_1) := (blk_cell hk_p 1).trans rfl; have fp1 := blk_frozen hk_p 1; have p2 : w2.cell? ⟨w.heap.size, 2, none⟩ = some (.int .i64 a0_2) := (blk_cell hk_p 2).trans rfl; have fp2 := blk_frozen hk_p 2; have p3 : w2.cell? ⟨w.heap.size, 3, none⟩ = some (.int .i64 a0_3) := (blk_cell hk_p 3).trans rfl; have fp3 := blk_frozen hk_p 3; have p4 : w2.cell? ⟨w.heap.size, 4, none⟩ = some (.int .i64 a0_4) := (blk_cell hk_p 4).trans rfl; have fp4 := blk_frozen hk_p 4; have p5 : w2.cell? ⟨w.heap.size, 5, none⟩ = some (.int .i64 a0_5) := (blk_cell hk_p 5).trans rfl; have fp5 := blk_frozen hk_p 5; have p6 : w2.cell? ⟨w.heap.size, 6, none⟩ = some (.bool a0_6) := (blk_cell hk_p 6).trans rfl; have fp6 := blk_frozen hk_p 6; have p7 : w2.cell? ⟨w.heap.size, 7, none⟩ = some (.bool a0_7) := (blk_cell hk_p 7).trans rfl; have fp7 := blk_frozen hk_p 7; have b0 : w2.cell? ⟨w.heap.size + 1, 0, none⟩ = some (.int .i64 a2_0) := (blk_cell hk_b 0).trans rfl; have fb0 := blk_frozen hk_b 0; have b1 : w2.cell? ⟨w.heap.size + 1, 1, none⟩ = some (.int .i64 a2_1) := (blk_cell hk_b 1).trans rfl; have fb1 := blk_frozen hk_b 1; have b2 : w2.cell? ⟨w.heap.size + 1, 2, none⟩ = some (.int .i64 a2_2) := (blk_cell hk_b 2).trans rfl; have fb2 := blk_frozen hk_b 2; have q0 : w2.cell? ⟨w.heap.size + 2, 0, none⟩ = some (.slice none 0 0) := (blk_cell hk_q 0).trans rfl; have fq0 := blk_frozen hk_q 0; have q1 : w2.cell? ⟨w.heap.size + 2, 1, none⟩ = some (.slice none 0 0) := (blk_cell hk_q 1).trans rfl; have fq1 := blk_frozen hk_q 1; have q2 : w2.cell? ⟨w.heap.size + 2, 2, none⟩ = some (.int .i64 0) := (blk_cell hk_q 2).trans rfl; have fq2 := blk_frozen hk_q 2; have q3 : w2.cell? ⟨w.heap.size + 2, 3, none⟩ = some (.int .i64 0) := (blk_cell hk_q 3).trans rfl; have fq3 := blk_frozen hk_q 3; have q4 : w2.cell? ⟨w.heap.size + 2, 4, none⟩ = some (.int .i64 0) := (blk_cell hk_q 4).trans rfl; have fq4 := blk_frozen hk_q 4; have q5 : w2.cell? ⟨w.heap.size + 2, 5, none⟩ = some (.int .i64 0) := (blk_cell hk_q 5).trans rfl; have fq5 := blk_frozen hk_q 5; have q6 : w2.cell? ⟨w.heap.size + 2, 6, none⟩ = some (.bool false) := (blk_cell hk_q 6).trans rfl; have fq6 := blk_frozen hk_q 6; have q7 : w2.cell? ⟨w.heap.size + 2, 7, none⟩ = some (.bool false) := (blk_cell hk_q 7).trans rfl; have fq7 := blk_frozen hk_q 7; have hz2 : w.heap.size + 2 < w2.heap.size := blk_lt hk_q; clear hb2) | (go_at_call 72; (with_reducible refine (HU0.out _).mono ?_); rintro e w_ ⟨rfl, ⟨nd0, rfl⟩⟩) | (go_at_call 73; (with_reducible refine (HU1.out _).mono ?_); rintro e w3 ⟨rfl, hb3⟩; replace hB2 := Aside0.mk (below_step (w := w) (by repeat (first | (with_reducible first | apply below_alloc | apply pw_below_drewN | apply below_drew1) | exact hB2.out)) hb3); clear p0 fp0 p1 fp1 p2 fp2 p3 fp3 p4 fp4 p5 fp5 p6 fp6 p7 fp7; replace hk_p := (show w3.heap[w.heap.size]? = some (.cells #[.slice A0_0 l0_0.length c0_0, .slice A0_1 l0_1.length c0_1, .int .i64 a0_2, .int .i64 a0_3, .int .i64 a0_4, .int .i64 a0_5, .bool a0_6, .bool a0_7] 34 (0, 0)) from blk_below (by (with_reducible repeat (first | refine blk_drewN ?_ _ | refine blk_drew ?_ | refine blk_alloc ?_ _)); exact hk_p) hb3); clear b0 fb0 b1 fb1 b2 fb2; replace hk_b := (show w3.heap[w.heap.size + 1]? = some (.cells #[.int .i64 a2_0, .int .i64 a2_1, .int .i64 a2_2] 23 (0, 0)) from blk_below (by (with_reducible repeat (first | refine blk_drewN ?_ _ | refine blk_drew ?_ | refine blk_alloc ?_ _)); exact hk_b) hb3); clear q0 fq0 q1 fq1 q2 fq2 q3 fq3 q4 fq4 q5 fq5 q6 fq6 q7 fq7; replace hk_q := (show w3.heap[w.heap.size + 2]? = some (.cells #[.slice none 0 0, .slice none 0 0, .int .i64 0, .int .i64 0, .int .i64 0, .int .i64 0, .bool false, .bool false] 34 (0, 0)) from blk_below (by (with_reducible repeat (first | refine blk_drewN ?_ _ | refine blk_drew ?_ | refine blk_alloc ?_ _)); exact hk_q) hb3); have p0 : w3.cell? ⟨w.heap.size, 0, none⟩ = some (.slice A0_0 l0_0.length c0_0) := (blk_cell hk_p 0).trans rfl; have fp0 := blk_frozen hk_p 0; have p1 : w3.cell? ⟨w.heap.size, 1, none⟩ = some (.slice A0_1 l0_1.length c0_1) := (blk_cell hk_p 1).trans rfl; have fp1 := blk_frozen hk_p 1; have p2 : w3.cell? ⟨w.heap.size, 2, none⟩ = some (.int .i64 a0_2) := (blk_cell hk_p 2).trans rfl; have fp2 := blk_frozen hk_p 2; have p3 : w3.cell? ⟨w.heap.size, 3, none⟩ = some (.int .i64 a0_3) := (blk_cell hk_p 3).trans rfl; have fp3 := blk_frozen hk_p 3; have p4 : w3.cell? ⟨w.heap.size, 4, none⟩ = some (.int .i64 a0_4) := (blk_cell hk_p 4).trans rfl; have fp4 := blk_frozen hk_p 4; have p5 : w3.cell? ⟨w.heap.size, 5, none⟩ = some (.int .i64 a0_5) := (blk_cell hk_p 5).trans rfl; have fp5 := blk_frozen hk_p 5; have p6 : w3.cell? ⟨w.heap.size, 6, none⟩ = some (.bool a0_6) := (blk_cell hk_p 6).trans rfl; have fp6 := blk_frozen hk_p 6; have p7 : w3.cell? ⟨w.heap.size, 7, none⟩ = some (.bool a0_7) := (blk_cell hk_p 7).trans rfl; have fp7 := blk_frozen hk_p 7; have b0 : w3.cell? ⟨w.heap.size + 1, 0, none⟩ = some (.int .i64 a2_0) := (blk_cell hk_b 0).trans rfl; have fb0 := blk_frozen hk_b 0; have b1 : w3.cell? ⟨w.heap.size + 1, 1, none⟩ = some (.int .i64 a2_1) := (blk_cell hk_b 1).trans rfl; have fb1 := blk_frozen hk_b 1; have b2 : w3.cell? ⟨w.heap.size + 1, 2, none⟩ = some (.int .i64 a2_2) := (blk_cell hk_b 2).trans rfl; have fb2 := blk_frozen hk_b 2; have q0 : w3.cell? ⟨w.heap.size + 2, 0, none⟩ = some (.slice none 0 0) := (blk_cell hk_q 0).trans rfl; have fq0 := blk_frozen hk_q 0; have q1 : w3.cell? ⟨w.heap.size + 2, 1, none⟩ = some (.slice none 0 0) := (blk_cell hk_q 1).trans rfl; have fq1 := blk_frozen hk_q 1; have q2 : w3.cell? ⟨w.heap.size + 2, 2, none⟩ = some (.int .i64 0) := (blk_cell hk_q 2).trans rfl; have fq2 := blk_frozen hk_q 2; have q3 : w3.cell? ⟨w.heap.size + 2, 3, none⟩ = some (.int .i64 0) := (blk_cell hk_q 3).trans rfl; have fq3 := blk_frozen hk_q 3; have q4 : w3.cell? ⟨w.heap.size + 2, 4, none⟩ = some (.int .i64 0) := (blk_cell hk_q 4).trans rfl; have fq4 := blk_frozen hk_q 4; have q5 : w3.cell? ⟨w.heap.size + 2, 5, none⟩ = some (.int .i64 0) := (blk_cell hk_q 5).trans rfl; have fq5 := blk_frozen hk_q 5; have q6 : w3.cell? ⟨w.heap.size + 2, 6, none⟩ = some (.bool false) := (blk_cell hk_q 6).trans rfl; have fq6 := blk_frozen hk_q 6; have q7 : w3.cell? ⟨w.heap.size + 2, 7, none⟩ = some (.bool false) := (blk_cell hk_q 7).trans rfl; have fq7 := blk_frozen hk_q 7; replace hz2 : w.heap.size + 2 < w3.heap.size := blk_lt hk_q; clear hb3) | (go_at_call 74; (with_reducible refine (HU2.out _).mono ?_); rintro e w_ ⟨rfl, ⟨nd2, rfl⟩⟩) | (go_at_call 52; refine (HO2.out _ ?hB).mono ?_; (case hB => repeat (first | (with_reducible first | apply below_alloc | apply pw_below_drewN | apply below_drew1) | exact hB2.out)); rintro e w4 ⟨v0, v1, rfl, hv0, hv1, hb4⟩; obtain ⟨V0, n0, rfl⟩ := Kd.R_slice hv0; obtain ⟨V1, n1, rfl⟩ := Kd.R_slice hv1; replace hv0 := Aside0.mk (Kd.R_lower (base' := w.heap.size + 3) hv0 (by simp; omega)); replace hv1 := Aside0.mk (Kd.R_lower (base' := w.heap.size + 3) hv1 (by simp; omega)); replace hB2 := Aside0.mk (below_step (w := w) (by repeat (first | (with_reducible first | apply below_alloc | apply pw_below_drewN | apply below_drew1) | exact hB2.out)) hb4); clear p0 fp0 p1 fp1 p2 fp2 p3 fp3 p4 fp4 p5 fp5 p6 fp6 p7 fp7; replace hk_p := (show w4.heap[w.heap.size]? = some (.cells #[.slice A0_0 l0_0.length c0_0, .slice A0_1 l0_1.length c0_1, .int .i64 a0_2, .int .i64 a0_3, .int .i64 a0_4, .int .i64 a0_5, .bool a0_6, .bool a0_7] 34 (0, 0)) from blk_below (by (with_reducible repeat (first | refine blk_drewN ?_ _ | refine blk_drew ?_ | refine blk_alloc ?_ _)); exact hk_p) hb4); clear b0 fb0 b1 fb1 b2 fb2; replace hk_b := (show w4.heap[w.heap.size + 1]? = some (.cells #[.int .i64 a2_0, .int .i64 a2_1, .int .i64 a2_2] 23 (0, 0)) from blk_below (by (with_reducible repeat (first | refine blk_drewN ?_ _ | refine blk_drew ?_ | refine blk_alloc ?_ _)); exact hk_b) hb4); clear q0 fq0 q1 fq1 q2 fq2 q3 fq3 q4 fq4 q5 fq5 q6 fq6 q7 fq7; replace hk_q := (show w4.heap[w.heap.size + 2]? = some (.cells #[.slice none 0 0, .slice none 0 0, .int .i64 0, .int .i64 0, .int .i64 0, .int .i64 0, .bool false, .bool false] 34 (0, 0)) from blk_below (by (with_reducible repeat (first | refine blk_drewN ?_ _ | refine blk_drew ?_ | refine blk_alloc ?_ _)); exact hk_q) hb4); have p0 : w4.cell? ⟨w.heap.size, 0, none⟩ = some (.slice A0_0 l0_0.length c0_0) := (blk_cell hk_p 0).trans rfl; have fp0 := blk_frozen hk_p 0; have p1 : w4.cell? ⟨w.heap.size, 1, none⟩ = some (.slice A0_1 l0_1.length c0_1) := (blk_cell hk_p 1).trans rfl; have fp1 := blk_frozen hk_p 1; have p2 : w4.cell? ⟨w.heap.size, 2, none⟩ = some (.int .i64 a0_2) := (blk_cell hk_p 2).trans rfl; have fp2 := blk_frozen hk_p 2; have p3 : w4.cell? ⟨w.heap.size, 3, none⟩ = some (.int .i64 a0_3) := (blk_cell hk_p 3).trans rfl; have fp3 := blk_frozen hk_p 3; have p4 : w4.cell? ⟨w.heap.size, 4, none⟩ = some (.int .i64 a0_4) := (blk_cell hk_p 4).trans rfl; have fp4 := blk_frozen hk_p 4; have p5 : w4.cell? ⟨w.heap.size, 5, none⟩ = some (.int .i64 a0_5) := (blk_cell hk_p 5).trans rfl; have fp5 := blk_frozen hk_p 5; have p6 : w4.cell? ⟨w.heap.size, 6, none⟩ = some (.bool a0_6) := (blk_cell hk_p 6).trans rfl; have fp6 := blk_frozen hk_p 6; have p7 : w4.cell? ⟨w.heap.size, 7, none⟩ = some (.bool a0_7) := (blk_cell hk_p 7).trans rfl; have fp7 := blk_frozen hk_p 7; have b0 : w4.cell? ⟨w.heap.size + 1, 0, none⟩ = some (.int .i64 a2_0) := (blk_cell hk_b 0).trans rfl; have fb0 := blk_frozen hk_b 0; have b1 : w4.cell? ⟨w.heap.size + 1, 1, none⟩ = some (.int .i64 a2_1) := (blk_cell hk_b 1).trans rfl; have fb1 := blk_frozen hk_b 1; have b2 : w4.cell? ⟨w.heap.size + 1, 2, none⟩ = some (.int .i64 a2_2) := (blk_cell hk_b 2).trans rfl; have fb2 := blk_frozen hk_b 2; have q0 : w4.cell? ⟨w.heap.size + 2, 0, none⟩ = some (.slice none 0 0) := (blk_cell hk_q 0).trans rfl; have fq0 := blk_frozen hk_q 0; have q1 : w4.cell? ⟨w.heap.size + 2, 1, none⟩ = some (.slice none 0 0) := (blk_cell hk_q 1).trans rfl; have fq1 := blk_frozen hk_q 1; have q2 : w4.cell? ⟨w.heap.size + 2, 2, none⟩ = some (.int .i64 0) := (blk_cell hk_q 2).trans rfl; have fq2 := blk_frozen hk_q 2; have q3 : w4.cell? ⟨w.heap.size + 2, 3, none⟩ = some (.int .i64 0) := (blk_cell hk_q 3).trans rfl; have fq3 := blk_frozen hk_q 3; have q4 : w4.cell? ⟨w.heap.size + 2, 4, none⟩ = some (.int .i64 0) := (blk_cell hk_q 4).trans rfl; have fq4 := blk_frozen hk_q 4; have q5 : w4.cell? ⟨w.heap.size + 2, 5, none⟩ = some (.int .i64 0) := (blk_cell hk_q 5).trans rfl; have fq5 := blk_frozen hk_q 5; have q6 : w4.cell? ⟨w.heap.size + 2, 6, none⟩ = some (.bool false) := (blk_cell hk_q 6).trans rfl; have fq6 := blk_frozen hk_q 6; have q7 : w4.cell? ⟨w.heap.size + 2, 7, none⟩ = some (.bool false) := (blk_cell hk_q 7).trans rfl; have fq7 := blk_frozen hk_q 7; replace hz2 : w.heap.size + 2 < w4.heap.size := blk_lt hk_q; have hz3 : w.heap.size + 1 < w4.heap.size := (by omega); clear hb4) | (go_at_call 75; refine (HM.out w4.heap.size (.slice V0 o1.length n0) (.slice V1 o2.length n1) (w.heap.size + 3) (w.heap.size + 3) _ ?m1 ?m2 ?m3 ?m4 ?m5 ).mono ?_; (case m1 => omega); (case m2 => exact Nat.le_refl _); (case m3 => (with_reducible repeat (first | refine blk_drewN ?_ _ | refine blk_drew ?_)); exact blk_new _ _); (case m4 => exact Kd.R_below hv0.out (by repeat (first | (with_reducible first | exact Below.refl _ _ | apply below_alloc | apply pw_below_drewN | apply below_drew1) | refine below_set ?_ (Nat.le_refl _)))); (case m5 => exact Kd.R_below hv1.out (by repeat (first | (with_reducible first | exact Below.refl _ _ | apply below_alloc | apply pw_below_drewN | apply below_drew1) | refine below_set ?_ (Nat.le_refl _)))); rintro e w6 ⟨rfl, hk_r, h06, h16, hb6⟩; replace hB2 := Aside0.mk (below_weaken (w0 := w) (by repeat (first | (with_reducible first | apply below_alloc | apply pw_below_drewN | apply below_drew1) | refine below_set ?_ (by omega) | exact hB2.out)) (by omega) hb6); replace hv0 := Aside0.mk h06; replace hv1 := Aside0.mk h16; clear h06 h16; clear p0 fp0 p1 fp1 p2 fp2 p3 fp3 p4 fp4 p5 fp5 p6 fp6 p7 fp7; clear b0 fb0 b1 fb1 b2 fb2; clear q0 fq0 q1 fq1 q2 fq2 q3 fq3 q4 fq4 q5 fq5 q6 fq6 q7 fq7; replace hk_q := ((hb6.block _ (by omega)).trans (by repeat (first | (with_reducible first | refine blk_drewN ?_ _ | refine blk_drew ?_ | refine blk_alloc ?_ _) | refine blk_far ?_ (by omega) _ | exact hk_q)) : w6.heap[w.heap.size + 2]? = some (.cells #[.slice none 0 0, .slice none 0 0, .int .i64 0, .int .i64 0, .int .i64 0, .int .i64 0, .bool false, .bool false] 34 (0, 0))); have q0 : w6.cell? ⟨w.heap.size + 2, 0, none⟩ = some (.slice none 0 0) := (blk_cell hk_q 0).trans rfl; have fq0 := blk_frozen hk_q 0; have q1 : w6.cell? ⟨w.heap.size + 2, 1, none⟩ = some (.slice none 0 0) := (blk_cell hk_q 1).trans rfl; have fq1 := blk_frozen hk_q 1; have q2 : w6.cell? ⟨w.heap.size + 2, 2, none⟩ = some (.int .i64 0) := (blk_cell hk_q 2).trans rfl; have fq2 := blk_frozen hk_q 2; have q3 : w6.cell? ⟨w.heap.size + 2, 3, none⟩ = some (.int .i64 0) := (blk_cell hk_q 3).trans rfl; have fq3 := blk_frozen hk_q 3; have q4 : w6.cell? ⟨w.heap.size + 2, 4, none⟩ = some (.int .i64 0) := (blk_cell hk_q 4).trans rfl; have fq4 := blk_frozen hk_q 4; have q5 : w6.cell? ⟨w.heap.size + 2, 5, none⟩ = some (.int .i64 0) := (blk_cell hk_q 5).trans rfl; have fq5 := blk_frozen hk_q 5; have q6 : w6.cell? ⟨w.heap.size + 2, 6, none⟩ = some (.bool false) := (blk_cell hk_q 6).trans rfl; have fq6 := blk_frozen hk_q 6; have q7 : w6.cell? ⟨w.heap.size + 2, 7, none⟩ = some (.bool false) := (blk_cell hk_q 7).trans rfl; have fq7 := blk_frozen hk_q 7; have r0 : w6.cell? ⟨w4.heap.size, 0, none⟩ = some (.slice V0 o1.length n0) := (blk_cell hk_r 0).trans rfl; have fr0 := blk_frozen hk_r 0; have r1 : w6.cell? ⟨w4.heap.size, 1, none⟩ = some (.slice V1 o2.length n1) := (blk_cell hk_r 1).trans rfl; have fr1 := blk_frozen hk_r 1; have r2 : w6.cell? ⟨w4.heap.size, 2, none⟩ = some (.int .i64 o3) := (blk_cell hk_r 2).trans rfl; have fr2 := blk_frozen hk_r 2; have r3 : w6.cell? ⟨w4.heap.size, 3, none⟩ = some (.int .i64 o4) := (blk_cell hk_r 3).trans rfl; have fr3 := blk_frozen hk_r 3; have r4 : w6.cell? ⟨w4.heap.size, 4, none⟩ = some (.int .i64 o5) := (blk_cell hk_r 4).trans rfl; have fr4 := blk_frozen hk_r 4; have r5 : w6.cell? ⟨w4.heap.size, 5, none⟩ = some (.int .i64 o6) := (blk_cell hk_r 5).trans rfl; have fr5 := blk_frozen hk_r 5; have r6 : w6.cell? ⟨w4.heap.size, 6, none⟩ = some (.bool o7) := (blk_cell hk_r 6).trans rfl; have fr6 := blk_frozen hk_r 6; have r7 : w6.cell? ⟨w4.heap.size, 7, none⟩ = some (.bool o8) := (blk_cell hk_r 7).trans rfl; have fr7 := blk_frozen hk_r 7; have hz6 : w4.heap.size < w6.heap.size := blk_lt hk_r; clear hb6) | go_in)
            refine bodyPost_ret (v := .tuple #[.agg #[.slice V0 o1.length n0, .slice V1 o2.length n1, .int .i64 o3, .int .i64 o4, .int .i64 o5, .int .i64 o6, .bool o7, .bool o8], .int .i64 na, .bool true]) (by simp [results, Try.results28, go_sem, q0, fq0, q1, fq1, q2, fq2, q3, fq3, q4, fq4, q5, fq5, q6, fq6, q7, fq7]) rfl ⟨.slice V0 o1.length n0, .slice V1 o2.length n1, rfl, ?_, ?_, ?_⟩
            · exact Kd.R_lower (impl_PlaceOf.same hv0.out (fun k hk => by have := Kd.R_base hv0.out k hk; repeat (first | rw [Below.heap_setCell _ _ _ _ (show k ≠ _ by (show k ≠ w.heap.size + 2); omega)] | rfl))) (by omega)
            · exact Kd.R_lower (impl_PlaceOf.same hv1.out (fun k hk => by have := Kd.R_base hv1.out k hk; repeat (first | rw [Below.heap_setCell _ _ _ _ (show k ≠ _ by (show k ≠ w.heap.size + 2); omega)] | rfl))) (by omega)
            · repeat (first | (with_reducible first | apply below_alloc | apply pw_below_drewN | apply below_drew1) | refine below_set ?_ (by omega))
              exact hB2.out
          · rw [if_neg g] at H
            exact absurd H (by simp)

end Go.Proofs.Ytdpbfjcfpgbbjaa.HFnExactPlaceOf
