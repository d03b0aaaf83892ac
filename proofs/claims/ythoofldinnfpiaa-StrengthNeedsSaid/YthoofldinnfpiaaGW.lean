import Derived.Test.YthoofldinnfpiaaPL
import Derived.Test.YthoofldinnfpiaaNA
namespace Go.Proofs.Ythoofldinnfpiaa
open Go.RowKit Go.Proofs.YthoofldinnfpiaaW.PrintWords Go.Proofs.YthoofldinnfpiaaW.PrintLast Go.Proofs.YthoofldinnfpiaaW.PrintMore
open Q
set_option linter.unusedVariables false
set_option linter.unusedSimpArgs false
theorem great_l0 (l : List S118) (hl : l.length ≤ 500) : ∀ (d : Nat) (n : Int) (i k : Nat), i ≤ l.length → l.length - i = d → d < k → 0 ≤ n → n ≤ 250 * i → ∃ b, ∀ k', k ≤ k' → culletlaw03_Great.l0 k' l n i = some b := by
  intro d
  induction d with
  | zero =>
    intro n i k hi hd hk h0 h1
    refine ⟨decide (n > 600), fun k' hk' => ?_⟩
    obtain ⟨m, rfl⟩ : ∃ m, k' = m + 1 := ⟨k' - 1, by omega⟩
    rw [culletlaw03_Great.l0, if_neg (by omega)]
  | succ d ih =>
    intro n i k hi hd hk h0 h1
    by_cases hg : ((rd_T118 l i).f2.length : Int) > 250
    · refine ⟨true, fun k' hk' => ?_⟩
      obtain ⟨m, rfl⟩ : ∃ m, k' = m + 1 := ⟨k' - 1, by omega⟩
      rw [culletlaw03_Great.l0, if_pos (by omega), if_pos (by omega), if_pos hg]
    · obtain ⟨b, hb⟩ := ih (n + ((rd_T118 l i).f2.length : Int)) (i + 1) (k - 1) (by omega) (by omega) (by omega) (by omega) (by omega)
      refine ⟨b, fun k' hk' => ?_⟩
      obtain ⟨m, rfl⟩ : ∃ m, k' = m + 1 := ⟨k' - 1, by omega⟩
      rw [culletlaw03_Great.l0, if_pos (by omega), if_pos (by omega), if_neg hg, wrap64_in (n := n + ((rd_T118 l i).f2.length : Int)) (by omega) (by omega), wrap64_in (n := (i : Int) + 1) (by omega) (by omega)]
      exact hb m (by omega)
theorem great03 (l : List S118) : ∃ b, Ev (fun k => culletlaw03_Great.f k l) b := by
  by_cases hl : (l.length : Int) > 500
  · exact ⟨true, 0, fun k _ => by simp only [culletlaw03_Great.f]; rw [if_pos hl]⟩
  · obtain ⟨b, hb⟩ := great_l0 l (by omega) l.length 0 0 (l.length + 1) (by omega) (by omega) (by omega) (by omega) (by omega)
    refine ⟨b, l.length + 1, fun k hk => ?_⟩
    simp only [culletlaw03_Great.f]
    rw [if_neg hl]
    exact hb k hk
theorem wide05 (l1_0 : List (S29)) (a1_1 a1_2 a1_3 a1_4 a1_5 a1_6 a1_7 a1_8 : Int) (l1_9 : List Int) (a1_10 a1_11 a1_12 a1_13 a1_14 a1_15 a1_16 a1_17 a1_18 : Int) (l1_19 : List Int) (l1_20 : List (S118)) :
    ∃ b, Ev (fun k => culletlaw05_Wide.f k l1_0 a1_1 a1_2 a1_3 a1_4 a1_5 a1_6 a1_7 a1_8 l1_9 a1_10 a1_11 a1_12 a1_13 a1_14 a1_15 a1_16 a1_17 a1_18 l1_19 l1_20) b ∧ (b = false → l1_0.length ≤ 40 ∧ l1_9.length ≤ 40) := by
  obtain ⟨b, K, hK⟩ := great03 l1_20
  by_cases h1 : (l1_0.length : Int) > 40
  · exact ⟨true, ⟨0, fun k _ => by simp only [culletlaw05_Wide.f]; rw [if_pos h1]⟩, fun h => by cases h⟩
  by_cases h2 : (l1_9.length : Int) > 40
  · exact ⟨true, ⟨0, fun k _ => by simp only [culletlaw05_Wide.f]; rw [if_neg h1, if_pos h2]⟩, fun h => by cases h⟩
  by_cases h3 : (l1_19.length : Int) > 40
  · exact ⟨true, ⟨0, fun k _ => by simp only [culletlaw05_Wide.f]; rw [if_neg h1, if_neg h2, if_pos h3]⟩, fun h => by cases h⟩
  refine ⟨b, ⟨K, fun k hk => ?_⟩, fun _ => ⟨by omega, by omega⟩⟩
  have := hK k hk
  simp only at this
  simp only [culletlaw05_Wide.f]
  rw [if_neg h1, if_neg h2, if_neg h3, this]
  rfl

open Go.Shelf
attribute [local go_sem] Oper.semAt_some wide_depth wide_fn
set_option linter.unusedVariables false
theorem lives_any (w : World) : Calls Try.prog 14 #[] w fun e w' => e = .returned (.bool true) ∧ Below w.heap.size w w' := by
  obtain ⟨K, h⟩ := lives
  exact culletlaw05_lives.calls K true w (h K (Nat.le_refl _))
theorem great_any (A : Option Addr) (c : Nat) (l : List S82) (fl tg : Int) (w : World) (hC : Kd.C k82 w A l.length l) (hl : l.length ≤ c) :
    Calls Try.prog 13 #[.agg #[.slice A l.length c, .int .i64 fl, .int .i64 tg]] w fun e w' => e = .returned (.bool (decide ((l.length : Int) > 40))) ∧ Below w.heap.size w w' :=
  culletlaw05_Great.calls A c l fl tg _ w hC hl rfl
/-- what a law's boxes hold -/
structure LawB (w : World) (A : Option Addr) (c : Nat) (l : List S82) (fl tg : Int) (A0 : Option Addr) (c0 : Nat) (l0 : List S29) (a1 a2 a3 a4 a5 a6 a7 a8 : Int) (A9 : Option Addr) (c9 : Nat) (l9 : List Int) (a10 a11 a12 a13 a14 a15 a16 a17 a18 : Int) (A19 : Option Addr) (c19 : Nat) (l19 : List Int) (A20 : Option Addr) (c20 : Nat) (l20 : List S118) (W : World) : Prop where
  hb : W.heap[w.heap.size]? = some (.cells #[.slice A l.length c, .int .i64 fl, .int .i64 tg] 24 (0, 0))
  ha : W.heap[w.heap.size + 1]? = some (.cells #[.slice A0 l0.length c0, .int .i64 a1, .int .i64 a2, .int .i64 a3, .int .i64 a4, .int .i64 a5, .int .i64 a6, .int .i64 a7, .int .i64 a8, .slice A9 l9.length c9, .int .i64 a10, .int .i64 a11, .int .i64 a12, .int .i64 a13, .int .i64 a14, .int .i64 a15, .int .i64 a16, .int .i64 a17, .int .i64 a18, .slice A19 l19.length c19, .slice A20 l20.length c20] 33 (0, 0))
  be : Below w.heap.size w W
theorem LawB.grow {w W W' : World} {A : Option Addr} {c : Nat} {l : List S82} {fl tg : Int} {A0 : Option Addr} {c0 : Nat} {l0 : List S29} {a1 a2 a3 a4 a5 a6 a7 a8 : Int} {A9 : Option Addr} {c9 : Nat} {l9 : List Int} {a10 a11 a12 a13 a14 a15 a16 a17 a18 : Int} {A19 : Option Addr} {c19 : Nat} {l19 : List Int} {A20 : Option Addr} {c20 : Nat} {l20 : List S118} (h : LawB w A c l fl tg A0 c0 l0 a1 a2 a3 a4 a5 a6 a7 a8 A9 c9 l9 a10 a11 a12 a13 a14 a15 a16 a17 a18 A19 c19 l19 A20 c20 l20 W) (hb : Below W.heap.size W W') : LawB w A c l fl tg A0 c0 l0 a1 a2 a3 a4 a5 a6 a7 a8 A9 c9 l9 a10 a11 a12 a13 a14 a15 a16 a17 a18 A19 c19 l19 A20 c20 l20 W' :=
  ⟨heap_grow h.hb hb, heap_grow h.ha hb, h.be.trans (hb.mono h.be.size)⟩
end Go.Proofs.Ythoofldinnfpiaa
