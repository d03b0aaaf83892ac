import Derived.Test.YthoofldinnfpiaaOT
namespace Go.Proofs.Ythoofldinnfpiaa
open Go.RowKit Go.Proofs.YthoofldinnfpiaaW.PrintWords Go.Deep Go.ChangeShapes Go.WideShapes
open Q
def W8 (n : Int) : Prop := (Lit.int .u8 n).wf = true
theorem cell5 : Try.prog.cellsOf 5 = 1 := by kernel_rfl
theorem opens5 : Opens Try.prog (Kd.int .u8) 5 W8 := opens_int Try.underlying5
theorem opens54 : Opens Try.prog (Kd.slice 5 (Kd.int .u8)) 54 (fun l => ∀ y ∈ l, W8 y) := opens_slice Try.underlying54 cell5 opens5
theorem W8.le {n : Int} (h : W8 n) : 0 ≤ n ∧ n ≤ 255 := by
  exact Go.bounds_u8 h
set_option maxRecDepth 100000 in
theorem open_bytes {H : Type} {enc : TypeId × Value → H} {W : World} {base b0 : Nat} {r : Reach} {spare : Nat → Bool} {held : Bool} {v : Value} {d : DataW H} {p : List MemPlace} (hv : Value.okWide Try.prog W r b0 54 v) (h : DataW.Trod enc Try.prog W base spare held 54 v d p) :
    ∃ A c l, v = .slice A l.length c ∧ Kd.C (Kd.int .u8) W A l.length l ∧ l.length ≤ c ∧ (∀ y ∈ l, 0 ≤ y ∧ y ≤ 255) := by
  obtain ⟨a, len, cap, rfl⟩ := okWide_slice Try.underlying54 hv
  obtain ⟨fuel, hf⟩ := h
  obtain ⟨l, ⟨A, c, hcs, hl, hC⟩, hw⟩ := opens54 _ _ _ _ _ _ _ _ _ hf
  refine ⟨A, c, l, ?_, hC, hl, fun y hy => (hw y hy).le⟩
  simpa [Value.cells] using hcs
end Go.Proofs.Ythoofldinnfpiaa
