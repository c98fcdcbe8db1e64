/- Arguments that come in by value or as slices, laid open as the print's kinds read them: from the form's reading of data ('trod') to a kind's cells. Each lemma states its own conditions. -/
import Derived.Deep.Slices
import Derived.Deep.Fields
import Derived.ChangeSame
import Derived.Lib.SmallJoins
import Derived.WalkKit
import Derived.Test.YtnopjkkglanlfaaDoorWMore
namespace Go.Proofs.YtnopjkkglanlfaaDoor.Op
open Go Go.RowKit Go.ChangeShapes Go.WideShapes Go.Deep Go.Proofs.YtnopjkkglanlfaaDoorW.PrintWords
section
variable {H : Type} {enc : TypeId × Value → H} {P : Program} {w : World} {base : Nat} {spare : Nat → Bool} {held : Bool}
/-- What reads as data of type t has the cells of the kind d, and is good. -/
def Opens (enc : TypeId × Value → H) (P : Program) (w : World) (base : Nat) (spare : Nat → Bool) (held : Bool) (t : TypeId) {α : Type} (d : Kd α) (good : α → Prop) : Prop :=
  ∀ fuel cs x, DataW.trod enc P w base spare held fuel t cs = some x → ∃ a : α, d.K w a cs ∧ good a
theorem opens_int {t : TypeId} {k : IntKind} (ht : P.underlying t = some (.int k)) : Opens enc P w base spare held t (Kd.int k) (fun n => (Lit.int k n).wf = true) := by
  intro fuel cs x h
  obtain ⟨n, rfl, _, hw⟩ := DataW.trod_int ht h
  exact ⟨n, rfl, hw⟩
theorem opens_bool {t : TypeId} (ht : P.underlying t = some .bool) : Opens enc P w base spare held t Kd.bool (fun _ => True) := by
  intro fuel cs x h
  obtain ⟨b, rfl, _⟩ := DataW.trod_bool ht h
  exact ⟨b, rfl, trivial⟩
theorem cells_at {a : Addr} {n : Nat} {cs : List Value} (h : w.cells? base a n = some cs) : cs.length = n ∧ ∀ i u, cs[i]? = some u → w.cell? (a.add i) = some u := by
  obtain ⟨_, hl, hat⟩ := World.cells?_some h
  refine ⟨hl, fun i u hu => ?_⟩
  have hi : i < n := by
    have := (List.getElem?_eq_some_iff.1 hu).1
    omega
  exact (hat i hi).trans hu
theorem opens_slice {t e : TypeId} {α : Type} {d : Kd α} {good : α → Prop} (e' : Nat) (ht : P.underlying t = some (.slice e)) (hsz : P.cellsOf e = d.sz) (he : Opens enc P w base spare held e d good) :
    Opens enc P w base spare held t (Kd.slice e' d) (fun l => l.length ≤ maxLen ∧ ∀ a ∈ l, good a) := by
  intro fuel cs x h
  rcases open_slice ht h with ⟨rfl, _⟩ | ⟨a, len, cap, m, n, D, Pl, rfl, _, hl, hm, hmm, _, hi⟩
  · exact ⟨[], ⟨none, 0, rfl, Nat.le_refl _, rfl, by simp, fun h => absurd h (by simp)⟩, by simp, fun a ha => by cases ha⟩
  · have hml : len ≤ m := by rw [hmm]; split <;> omega
    have hex : ∀ i, i < len → ∃ y : α, ∃ c : List Value, c.length = d.sz ∧ d.K w y c ∧ good y ∧ ∀ j u, c[j]? = some u → w.cell? (a.add (i * d.sz + j)) = some u := by
      intro i hi'
      obtain ⟨c, hc, htr⟩ := hi i (by omega)
      obtain ⟨y, hK, hg⟩ := he n c _ htr
      obtain ⟨hcl, hat⟩ := cells_at hc
      rw [hsz] at hcl
      refine ⟨y, c, hcl, hK, hg, fun j u hu => ?_⟩
      have := hat j u hu
      rw [Go.Deep.add_add, hsz] at this
      exact this
    have hlist : ∀ k, k ≤ len → ∃ l : List α, l.length = k ∧ ∀ i y, l[i]? = some y → ∃ c : List Value, c.length = d.sz ∧ d.K w y c ∧ good y ∧ ∀ j u, c[j]? = some u → w.cell? (a.add (i * d.sz + j)) = some u := by
      intro k
      induction k with
      | zero => exact fun _ => ⟨[], rfl, fun i y h => by simp at h⟩
      | succ k ih =>
        intro hk
        obtain ⟨l, hll, hlx⟩ := ih (by omega)
        obtain ⟨y, c, h1, h2, h3, h4⟩ := hex k (by omega)
        refine ⟨l ++ [y], by simp [hll], fun i z hz => ?_⟩
        rcases Nat.lt_or_ge i l.length with hlt | hge
        · rw [List.getElem?_append_left hlt] at hz
          exact hlx i z hz
        · have hi' : i = k := by
            have := (List.getElem?_eq_some_iff.1 hz).1
            simp at this
            omega
          subst hi'
          have : z = y := by
            rw [List.getElem?_append_right (by omega), hll] at hz
            simpa using hz.symm
          subst this
          exact ⟨c, h1, h2, h3, h4⟩
    obtain ⟨l, hll, hlx⟩ := hlist len (Nat.le_refl _)
    subst hll
    refine ⟨l, ⟨some a, cap, rfl, hl, rfl, ?_, fun hpos => ⟨a, rfl, fun j p hj => ?_⟩⟩, by omega, fun y hy => ?_⟩
    · unfold maxLen at hm; omega
    · obtain ⟨c, h1, h2, _, h4⟩ := hlx j p hj
      exact ⟨c, h1, h2, h4⟩
    · obtain ⟨i, hi', rfl⟩ := List.getElem_of_mem hy
      obtain ⟨c, _, _, h3, _⟩ := hlx i _ (List.getElem?_eq_getElem hi')
      exact h3
/-- The fields from 'off' on, told by their kinds. -/
def OpensRow (enc : TypeId × Value → H) (P : Program) (w : World) (base : Nat) (spare : Nat → Bool) (held : Bool) (fs : List Field) (off : Nat) {α : Type} (d : Kd α) (good : α → Prop) : Prop :=
  ∀ (n : Nat) (cs : List Value), (∀ f ∈ fs, ∃ y, DataW.trod enc P w base spare held n f.type ((cs.drop f.offset).take (P.cellsOf f.type)) = some y) → ∃ a : α, d.K w a ((cs.drop off).take d.sz) ∧ good a
theorem row_one {f : Field} {off : Nat} {α : Type} {d : Kd α} {good : α → Prop} (ho : f.offset = off) (hs : P.cellsOf f.type = d.sz) (h : Opens enc P w base spare held f.type d good) :
    OpensRow enc P w base spare held [f] off d good := by
  intro n cs hf
  obtain ⟨y, hy⟩ := hf f (by simp)
  rw [ho, hs] at hy
  exact h n _ _ hy
theorem row_cons {f : Field} {fs : List Field} {off : Nat} {α β : Type} {d : Kd α} {d' : Kd β} {good : α → Prop} {good' : β → Prop} (ho : f.offset = off) (hs : P.cellsOf f.type = d.sz) (h : Opens enc P w base spare held f.type d good)
    (hr : OpensRow enc P w base spare held fs (off + d.sz) d' good') : OpensRow enc P w base spare held (f :: fs) off (Kd.pair d d') (fun x => good x.1 ∧ good' x.2) := by
  intro n cs hf
  obtain ⟨y, hy⟩ := hf f (by simp)
  rw [ho, hs] at hy
  obtain ⟨a, hK, hg⟩ := h n _ _ hy
  obtain ⟨b, hK', hg'⟩ := hr n cs (fun g hgm => hf g (by simp [hgm]))
  refine ⟨(a, b), ⟨_, _, ?_, hK, hK'⟩, hg, hg'⟩
  show (cs.drop off).take (d.sz + d'.sz) = _
  rw [List.take_add, List.drop_drop]
theorem opens_struct {t : TypeId} {fs : Array Field} {α : Type} {d : Kd α} {good : α → Prop} (ht : P.underlying t = some (.struct fs)) (hs : P.cellsOf t = d.sz) (hr : OpensRow enc P w base spare held fs.toList 0 d good) :
    Opens enc P w base spare held t d good := by
  intro fuel cs x h
  obtain ⟨xs, n, _, rfl, hl, hlen, hf⟩ := DataW.trod_struct ht h
  obtain ⟨a, hK, hg⟩ := hr n cs (fun f hfm => by
    obtain ⟨j, hj, rfl⟩ := List.getElem_of_mem hfm
    exact ⟨xs[j]'(by simp at hj; omega), by
      have := hf j (fs.toList[j]) (by rw [← Array.getElem?_toList]; exact List.getElem?_eq_getElem hj)
      rw [this]
      exact List.getElem?_eq_getElem _⟩)
  refine ⟨a, ?_, hg⟩
  rw [List.drop_zero, ← hs, ← hl, List.take_length] at hK
  exact hK
theorem opens_iso {t : TypeId} {α β : Type} {d : Kd α} {good : α → Prop} (f : β → α) (g : α → β) (hfg : ∀ a, f (g a) = a) (h : Opens enc P w base spare held t d good) : Opens enc P w base spare held t (Kd.iso d f) (fun b => good (f b)) := by
  intro fuel cs x hx
  obtain ⟨a, hK, hg⟩ := h fuel cs x hx
  exact ⟨g a, by show d.K w (f (g a)) cs; rw [hfg]; exact hK, by show good (f (g a)); rw [hfg]; exact hg⟩
/-- A struct by value: its cells. -/
theorem open_value {r : Reach} {b0 : Nat} {t : TypeId} {fs : Array Field} {v : Value} {x : DataW H} {p : List MemPlace} {α : Type} {d : Kd α} {good : α → Prop} (hs : P.underlying t = some (.struct fs))
    (hv : Value.okWide P w r b0 t v) (h : DataW.Trod enc P w base spare held t v x p) (ho : Opens enc P w base spare held t d good) : ∃ (a : α) (cs : List Value), v = .agg cs.toArray ∧ d.K w a cs ∧ good a := by
  obtain ⟨cs, rfl, _⟩ := okWide_struct hs hv
  obtain ⟨fuel, hf⟩ := h
  obtain ⟨a, hK, hg⟩ := ho fuel _ _ hf
  exact ⟨a, cs.toList, by simp, by simpa [Value.cells] using hK, hg⟩
theorem open_slice_value {r : Reach} {b0 : Nat} {t e : TypeId} {e' : Nat} {v : Value} {x : DataW H} {p : List MemPlace} {α : Type} {d : Kd α} {good : List α → Prop} (hs : P.underlying t = some (.slice e))
    (hv : Value.okWide P w r b0 t v) (h : DataW.Trod enc P w base spare held t v x p) (ho : Opens enc P w base spare held t (Kd.slice e' d) good) : ∃ (l : List α) (A : Option Addr) (c : Nat), v = .slice A l.length c ∧ l.length ≤ c ∧ d.C w A l.length l ∧ good l := by
  obtain ⟨A, len, cap, rfl⟩ := okWide_slice hs hv
  obtain ⟨fuel, hf⟩ := h
  obtain ⟨l, ⟨A', c, hcs, hlc, hC⟩, hg⟩ := ho fuel _ _ hf
  have hcs' : Value.slice A len cap = .slice A' l.length c := by simpa [Value.cells] using hcs
  injection hcs' with h1 h2 h3
  subst h1 h2 h3
  exact ⟨l, _, _, rfl, hlc, hC, hg⟩
end
end Go.Proofs.YtnopjkkglanlfaaDoor.Op
