import Derived.Test.YthoofldinnfpiaaHL
import Derived.Test.YthoofldinnfpiaaOB
import Derived.Test.YthoofldinnfpiaaN30
namespace Go.Proofs.Ythoofldinnfpiaa
open Go.RowKit Go.Proofs.YthoofldinnfpiaaW.PrintWords Go.Proofs.YthoofldinnfpiaaW.PrintLast Go.Proofs.YthoofldinnfpiaaW.PrintMore
open Q Go.Shelf
attribute [local go_sem] Oper.semAt_some wide_depth wide_fn
set_option linter.unusedVariables false
theorem row_open {w : World} {base : Nat} {ok : Nat → Prop} {v : Value} {xs : List S29} (h : Kd.R k29 29 w base ok v xs) : ∃ A c, v = .slice A xs.length c ∧ Kd.C k29 w A xs.length xs ∧ xs.length ≤ c := by
  obtain ⟨A, c, rfl⟩ := Kd.R_slice h
  exact ⟨A, c, rfl, (Kd.R_reads' h).2.2, (Kd.R_reads' h).2.1⟩
theorem set_at {W : World} {b : Nat} {cs : Array Value} {t : TypeId} (h : W.heap[b]? = some (.cells cs t (0, 0))) (j : Nat) (v : Value) : (W.setCell ⟨b, j, none⟩ v).heap[b]? = some (.cells (cs.setIfInBounds j v) t (0, 0)) := by
  simp [World.setCell, Array.getElem?_modify, h]
def atOf (l : List Int) (n : Int) : Int := l.getD n.toNat 0
theorem atOf_le {l : List Int} (h : ∀ y ∈ l, 0 ≤ y ∧ y ≤ 255) (n : Int) : 0 ≤ atOf l n ∧ atOf l n ≤ 255 := by
  unfold atOf
  by_cases hn : n.toNat < l.length
  · rw [List.getD_eq_getElem?_getD, List.getElem?_eq_getElem hn]; exact h _ (List.getElem_mem hn)
  · rw [List.getD_eq_getElem?_getD, List.getElem?_eq_none (by omega)]; simp
theorem at_any (A : Option Addr) (c : Nat) (l : List Int) (n : Int) (w : World) (hC : Kd.C (Kd.int .u8) w A l.length l) (hl : l.length ≤ c) (h0 : 0 ≤ n) :
    Calls Try.prog 30 #[.slice A l.length c, .int .i64 n] w fun e w' => e = .returned (.int .u8 (atOf l n)) ∧ Below w.heap.size w w' := by
  refine (culletlaw05_at.calls A c l n (atOf l n) w hC hl ?_).mono fun e w' h => ⟨h.1, h.2.below⟩
  unfold culletlaw05_at.f atOf
  by_cases h : n < (l.length : Int)
  · rw [if_pos h, if_pos h0]; rfl
  · rw [if_neg h, List.getD_eq_getElem?_getD, List.getElem?_eq_none (by omega)]; rfl
end Go.Proofs.Ythoofldinnfpiaa
