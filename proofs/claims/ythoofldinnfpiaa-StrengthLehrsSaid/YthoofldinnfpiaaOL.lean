import Derived.Test.YthoofldinnfpiaaOT
namespace Go.Proofs.Ythoofldinnfpiaa
open Go.RowKit Go.Proofs.YthoofldinnfpiaaW.PrintWords Go.Deep Go.ChangeShapes Go.WideShapes
open Q
theorem cell42 : Try.prog.cellsOf 42 = 1 := by kernel_rfl
theorem cell44 : Try.prog.cellsOf 44 = 2 := by kernel_rfl
theorem cell97 : Try.prog.cellsOf 97 = 2 := by kernel_rfl
theorem seg97 {H : Type} {enc : TypeId × Value → H} {W : World} {base : Nat} {spare : Nat → Bool} {held : Bool} {fuel : Nat} {cs : List Value} {x : DataW H × List MemPlace} (hx : DataW.trod enc Try.prog W base spare held fuel 97 cs = some x) : Seg W (Kd.pair (Kd.int .i64) (Kd.int .i64)) (fun p => W64 p.1 ∧ W64 p.2) cs 0 := by
  have hl := cells_len Try.underlying97 hx
  rw [cell97] at hl
  have h0 := opens_field (off := 0) Try.underlying97 hx 0 rfl opens3 cell3 rfl rfl
  have h1 := opens_field (off := 1) Try.underlying97 hx 1 rfl opens3 cell3 rfl rfl
  exact seg_cons (o := 0) (n := 1) h0 (seg_last (o := 1) h1 hl)
def W97 (x : S97) : Prop := W64 x.f0 ∧ W64 x.f1
theorem opens97 : Opens Try.prog k97 97 W97 := fun _ _ _ _ _ _ _ _ _ hx => seg_iso _ (fun p : Int × Int => (⟨p.1, p.2⟩ : S97)) (fun _ => rfl) (seg97 hx)
theorem opens42 : Opens Try.prog (Kd.slice 97 k97) 42 (fun l => ∀ y ∈ l, W97 y) := opens_slice Try.underlying42 cell97 opens97
theorem seg44 {H : Type} {enc : TypeId × Value → H} {W : World} {base : Nat} {spare : Nat → Bool} {held : Bool} {fuel : Nat} {cs : List Value} {x : DataW H × List MemPlace} (hx : DataW.trod enc Try.prog W base spare held fuel 44 cs = some x) : Seg W (Kd.pair (Kd.slice 97 k97) (Kd.int .i64)) (fun p => (∀ y ∈ p.1, W97 y) ∧ W64 p.2) cs 0 := by
  have hl := cells_len Try.underlying44 hx
  rw [cell44] at hl
  have h0 := opens_field (off := 0) Try.underlying44 hx 0 rfl opens42 cell42 rfl rfl
  have h1 := opens_field (off := 1) Try.underlying44 hx 1 rfl opens3 cell3 rfl rfl
  exact seg_cons (o := 0) (n := 1) h0 (seg_last (o := 1) h1 hl)
set_option maxRecDepth 100000 in
/-- a lehr that came in -/
theorem open_lehr {H : Type} {enc : TypeId × Value → H} {W : World} {base b0 : Nat} {r : Reach} {spare : Nat → Bool} {held : Bool} {v : Value} {d : DataW H} {p : List MemPlace} (hv : Value.okWide Try.prog W r b0 44 v) (h : DataW.Trod enc Try.prog W base spare held 44 v d p) :
    ∃ A c l fa, v = .agg #[.slice A l.length c, .int .i64 fa] ∧ Kd.C k97 W A l.length l ∧ l.length ≤ c := by
  obtain ⟨cs, rfl, hsz⟩ := okWide_struct Try.underlying44 hv
  obtain ⟨fuel, hf⟩ := h
  obtain ⟨⟨l, fa⟩, ⟨_, _, hcs, ⟨A, c, rfl, hl, hC⟩, rfl⟩, w1, w2⟩ := seg44 hf
  refine ⟨A, c, l, fa, ?_, hC, hl⟩
  simp [Value.cells] at hcs
  obtain ⟨cs⟩ := cs
  simp at hcs
  rw [hcs]
end Go.Proofs.Ythoofldinnfpiaa
