import Derived.Test.YthoofldinnfpiaaNL
import Derived.Test.YthoofldinnfpiaaH
namespace Go.Proofs.Ythoofldinnfpiaa
open Go.RowKit Go.Proofs.YthoofldinnfpiaaW.PrintWords Go.Proofs.YthoofldinnfpiaaW.PrintLast Go.Proofs.YthoofldinnfpiaaW.PrintMore
open Q
theorem wrap64_in {n : Int} (h0 : -9223372036854775808 ≤ n) (h1 : n ≤ 9223372036854775807) : wrap64 n = n := by unfold wrap64; omega
theorem same_l0 (l : List S29) : ∀ (d i k : Nat), i ≤ l.length → l.length - i = d → d < k → l.length ≤ 1000000000 → culletlaw01_SameSpans.l0 k l l i = some true := by
  intro d
  induction d with
  | zero =>
    intro i k hi hd hk _
    obtain ⟨k, rfl⟩ : ∃ m, k = m + 1 := ⟨k - 1, by omega⟩
    rw [culletlaw01_SameSpans.l0, if_neg (by omega)]
  | succ d ih =>
    intro i k hi hd hk hl
    obtain ⟨k, rfl⟩ : ∃ m, k = m + 1 := ⟨k - 1, by omega⟩
    rw [culletlaw01_SameSpans.l0, if_pos (by omega), if_pos (by omega), if_pos (by omega), if_neg (by simp), wrap64_in (by omega) (by omega)]
    exact ih (i + 1) k (by omega) (by omega) (by omega) hl
theorem sameSpans (l : List S29) (hl : l.length ≤ 1000000000) : Ev (fun k => culletlaw01_SameSpans.f k l l) true := by
  refine ⟨l.length + 1, fun k hk => ?_⟩
  simp only [culletlaw01_SameSpans.f]
  rw [if_pos trivial]
  exact same_l0 l l.length 0 k (by omega) (by omega) (by omega) hl
theorem thick_len (l : List S82) (fl tg a b : Int) : (thickOf l fl tg a b).1.length ≤ 24 := by
  unfold thickOf
  split
  · rename_i h
    split
    · simp; exact (check_zero h).1
    · simp
  · simp
theorem example_lives : thickOf [(⟨⟨300, 300⟩, ⟨1000, 1000⟩, ⟨1000, 1000⟩, ⟨1000, 1000⟩, ⟨500, 500⟩⟩ : S82)] 10 40000000000 1000 1000 = ([(⟨212, 213⟩ : S29)], 0) := by kernel_rfl
theorem lives : Ev (fun k => culletlaw05_lives.f k) true := by
  obtain ⟨K, hK⟩ := sameSpans [(⟨212, 213⟩ : S29)] (by simp)
  refine ⟨K, fun k hk => ?_⟩
  have e := example_lives
  simp only [culletlaw05_lives.f, culletlaw05_Example.f, culletlaw05_exact.f, Option.bind_some, strength_Thickness.f]
  rw [e]
  have h := hK k hk
  simp only at h
  simp only [if_true]
  rw [h]; rfl
theorem lives_any (w : World) : Calls Try.prog 14 #[] w fun e w' => e = .returned (.bool true) ∧ Below w.heap.size w w' := by
  obtain ⟨K, h⟩ := lives
  exact culletlaw05_lives.calls K true w (h K (Nat.le_refl _))
end Go.Proofs.Ythoofldinnfpiaa
