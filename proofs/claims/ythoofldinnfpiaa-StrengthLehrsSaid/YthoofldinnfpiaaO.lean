/- How an argument that reads as a datum is a value of a kind: whole numbers, structs, slices. -/
import Derived.Test.YthoofldinnfpiaaX0
import Derived.ProofKit
import Derived.OpenShut
import Derived.ChangeOld
import Derived.SizedLaws
import Derived.Deep.Slices
namespace Go.Proofs.Ythoofldinnfpiaa
open Go.RowKit Go.Proofs.YthoofldinnfpiaaW.PrintWords Go.Deep Go.ChangeShapes Go.WideShapes
/-- what reads by the type t is of the kind d, and Wf -/
def Opens {α : Type} (P : Program) (d : Kd α) (t : TypeId) (Wf : α → Prop) : Prop :=
  ∀ (H : Type) (enc : TypeId × Value → H) (W : World) (base : Nat) (spare : Nat → Bool) (held : Bool) (fuel : Nat) (cs : List Value) (x : DataW H × List MemPlace),
    DataW.trod enc P W base spare held fuel t cs = some x → ∃ y, d.K W y cs ∧ Wf y
variable {P : Program}
theorem opens_int {t : TypeId} {k : IntKind} (h : P.underlying t = some (.int k)) : Opens P (Kd.int k) t (fun n => (Lit.int k n).wf = true) := fun H enc W base spare held fuel cs x hx => by
  obtain ⟨n, rfl, _, hw⟩ := DataW.trod_int h hx
  exact ⟨n, rfl, hw⟩
theorem cells_get {w : World} {base n : Nat} {a : Addr} {cs : List Value} (h : w.cells? base a n = some cs) : cs.length = n ∧ ∀ i u, cs[i]? = some u → w.cell? (a.add i) = some u := by
  unfold World.cells? at h
  split at h
  · refine ⟨by have := mapM_some_length h; simpa using this, fun i u hu => ?_⟩
    have hl : cs.length = n := by have := mapM_some_length h; simpa using this
    have hi : i < n := by have := (List.getElem?_eq_some_iff.1 hu).1; omega
    have := mapM_some_get h i i (by simp [hi])
    rw [hu] at this
    exact this
  · cases h
theorem addr_add (a : Addr) (p q : Nat) : (a.add p).add q = a.add (p + q) := by
  unfold Addr.add
  by_cases hq : q = 0
  · subst hq; simp
  · by_cases hp : p = 0
    · subst hp; simp
    · simp [hp, hq, Nat.add_assoc]
theorem opens_slice {α : Type} {d : Kd α} {t e : TypeId} {Wf : α → Prop} (h : P.underlying t = some (.slice e)) (hsz : P.cellsOf e = d.sz) (he : Opens P d e Wf) : Opens P (Kd.slice e d) t (fun l => ∀ y ∈ l, Wf y) := fun H enc W base spare held fuel cs x hx => by
  rcases open_slice h hx with ⟨rfl, _⟩ | ⟨a, len, cap, m, n, D, Pl, rfl, _, hl, hc, hm, _, hel⟩
  · exact ⟨[], ⟨none, 0, rfl, Nat.le_refl _, Kd.C_nil _ _⟩, fun _ h => by cases h⟩
  · have hlm : len ≤ m := by rw [hm]; split <;> omega
    have key : ∀ i : Fin len, ∃ y, Wf y ∧ ∃ c, c.length = d.sz ∧ d.K W y c ∧ ∀ j u, c[j]? = some u → W.cell? (a.add (i.1 * d.sz + j)) = some u := fun i => by
      obtain ⟨cs', h1, h2⟩ := hel i.1 (by omega)
      obtain ⟨y, hy, hw⟩ := he H enc W base spare held n cs' _ h2
      obtain ⟨g1, g2⟩ := cells_get h1
      refine ⟨y, hw, cs', by rw [g1, hsz], hy, fun j u hu => ?_⟩
      have := g2 j u hu
      rw [hsz] at this
      rwa [addr_add] at this
    let f : Fin len → α := fun i => Classical.choose (key i)
    have hf : ∀ i, Wf (f i) ∧ _ := fun i => Classical.choose_spec (key i)
    have hlen : (List.ofFn f).length = len := by simp
    refine ⟨List.ofFn f, ⟨some a, cap, by rw [hlen], by rw [hlen]; exact hl, rfl, ?_, fun _ => ⟨a, rfl, fun j p hp => ?_⟩⟩, fun y hy => ?_⟩
    · rw [hlen]; unfold maxLen at hc; omega
    · obtain ⟨hj, rfl⟩ := List.getElem?_eq_some_iff.1 hp
      rw [hlen] at hj
      rw [List.getElem_ofFn]
      exact (hf ⟨j, hj⟩).2
    · obtain ⟨i, hi, rfl⟩ := List.getElem_of_mem hy
      rw [List.getElem_ofFn]
      exact (hf _).1
/-- field by field, from cell o on -/
def Seg {α : Type} (W : World) (d : Kd α) (Wf : α → Prop) (cs : List Value) (o : Nat) : Prop := ∃ y, d.K W y (cs.drop o) ∧ Wf y
theorem seg_last {α : Type} {W : World} {d : Kd α} {Wf : α → Prop} {cs : List Value} {o n : Nat} (h : ∃ y, d.K W y ((cs.drop o).take n) ∧ Wf y) (hl : cs.length = o + n) : Seg W d Wf cs o := by
  rwa [List.take_of_length_le (by simp; omega)] at h
theorem seg_cons {α β : Type} {W : World} {d : Kd α} {d' : Kd β} {Wf : α → Prop} {Wf' : β → Prop} {cs : List Value} {o n : Nat} (h : ∃ y, d.K W y ((cs.drop o).take n) ∧ Wf y) (h' : Seg W d' Wf' cs (o + n)) : Seg W (Kd.pair d d') (fun p => Wf p.1 ∧ Wf' p.2) cs o := by
  obtain ⟨y, hy, hw⟩ := h
  obtain ⟨z, hz, hw'⟩ := h'
  refine ⟨(y, z), ⟨(cs.drop o).take n, cs.drop (o + n), ?_, hy, hz⟩, hw, hw'⟩
  rw [← List.drop_drop, List.take_append_drop]
theorem seg_iso {α β : Type} {W : World} {d : Kd α} {Wf : α → Prop} {cs : List Value} (f : β → α) (g : α → β) (hfg : ∀ p, f (g p) = p) (h : Seg W d Wf cs 0) : ∃ y, (Kd.iso d f).K W y cs ∧ Wf (f y) := by
  obtain ⟨y, hy, hw⟩ := h
  refine ⟨g y, ?_, ?_⟩
  · show d.K W (f (g y)) cs
    rw [hfg]; simpa using hy
  · rw [hfg]; exact hw
theorem opens_field {α : Type} {d : Kd α} {Wf : α → Prop} {t : TypeId} {fs : Array Field} (hs : P.underlying t = some (.struct fs)) {H : Type} {enc : TypeId × Value → H} {W : World} {base : Nat} {spare : Nat → Bool} {held : Bool} {fuel : Nat} {cs : List Value} {x : DataW H × List MemPlace}
    (hx : DataW.trod enc P W base spare held fuel t cs = some x) (i : Nat) {f : Field} (hf : fs[i]? = some f) {ty : TypeId} {off m : Nat} (he : Opens P d ty Wf) (hm : P.cellsOf ty = m) (hty : f.type = ty) (hoff : f.offset = off) : ∃ y, d.K W y ((cs.drop off).take m) ∧ Wf y := by
  subst hty
  subst hoff
  subst hm
  obtain ⟨xs, n, _, _, _, hl, h⟩ := DataW.trod_struct hs hx
  have hi := (Array.getElem?_eq_some_iff.1 hf).1
  have := h i f hf
  obtain ⟨z, hz⟩ : ∃ z, xs[i]? = some z := ⟨xs[i]'(by omega), by simp⟩
  rw [hz] at this
  exact he H enc W base spare held n _ _ this
theorem cells_len {t : TypeId} {fs : Array Field} (hs : P.underlying t = some (.struct fs)) {H : Type} {enc : TypeId × Value → H} {W : World} {base : Nat} {spare : Nat → Bool} {held : Bool} {fuel : Nat} {cs : List Value} {x : DataW H × List MemPlace}
    (hx : DataW.trod enc P W base spare held fuel t cs = some x) : cs.length = P.cellsOf t := (DataW.trod_struct hs hx).choose_spec.choose_spec.2.2.1
end Go.Proofs.Ythoofldinnfpiaa
