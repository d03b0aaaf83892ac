import Derived.Test.YthoofldinnfpiaaX0
import Derived.WalkSmall
namespace Go.Proofs.Ythoofldinnfpiaa
open Go.RowKit Go.Proofs.YthoofldinnfpiaaW.PrintWords Go.Proofs.YthoofldinnfpiaaW.PrintLast Go.Proofs.YthoofldinnfpiaaW.PrintMore
open Q
theorem ret_int {k : IntKind} {a b : Int} (h : a = b) : Ending.returned (.int k a) = .returned (.int k b) := by rw [h]
theorem hid {p : Prop} (h : p) : Hid p := h
theorem ret_bool {a b : Bool} (h : a = b) : Ending.returned (.bool a) = .returned (.bool b) := by rw [h]
theorem demand_ok (e : Int) (w : World) : Calls Try.prog 52 #[.bool true, .int .i64 e] w fun en w' => en = .returned (.tuple #[]) ∧ w = w' := by
  go_enter Try.func52, Try.ntmps52
  go_wp2
  go_end0
  exact ⟨rfl, rfl⟩
def fail (e : Int) : List PanicEntry := [{ v := .iface 113 (.agg #[.int .i64 e]), recovered := false }]
theorem demand_no (e : Int) (w : World) : Calls Try.prog 52 #[.bool false, .int .i64 e] w fun en w' => en = .panicked (fail e) ∧ w = w' := by
  go_enter Try.func52, Try.ntmps52
  go_wp2
  exact ⟨rfl, rfl, rfl⟩
def betw (a l h : Int) : Bool := decide (l ≤ a) && decide (a ≤ h)
theorem within_any (a l h : Int) (w : World) : Calls Try.prog 67 #[.int .i64 a, .int .i64 l, .int .i64 h] w fun e w' => e = .returned (.bool (betw a l h)) ∧ w = w' := by
  by_cases h1 : l ≤ a
  · go_enter Try.func67, Try.ntmps67
    go_wp2
    go_ret
    exact ⟨by simp [betw, h1], rfl⟩
  · go_enter Try.func67, Try.ntmps67
    go_wp2
    go_ret
    exact ⟨by simp [betw]; omega, rfl⟩
def spanB (a b l h : Int) : Bool := decide (l ≤ a) && (decide (a ≤ b) && decide (b ≤ h))
theorem span_any (a b l h : Int) (w : World) : Calls Try.prog 53 #[.agg #[.int .i64 a, .int .i64 b], .int .i64 l, .int .i64 h] w fun e w' => e = .returned (.bool (spanB a b l h)) ∧ Below w.heap.size w w' := by
  have HB := Below.refl w.heap.size w
  by_cases h1 : l ≤ a
  · by_cases h2 : a ≤ b
    · have k1 : decide (l ≤ a) = true := by simpa using h1
      have k2 : decide (a ≤ b) = true := by simpa using h2
      go_enter Try.func53, Try.ntmps53
      go_wp2
      go_ret
      exact ⟨by simp [spanB, h1, h2], HB.alloc (Nat.le_refl _) _⟩
    · have k1 : decide (l ≤ a) = true := by simpa using h1
      have k2 : decide (a ≤ b) = false := by simpa using h2
      go_enter Try.func53, Try.ntmps53
      go_wp2
      go_ret
      exact ⟨by simp [spanB]; omega, HB.alloc (Nat.le_refl _) _⟩
  · have k1 : decide (l ≤ a) = false := by simpa using h1
    go_enter Try.func53, Try.ntmps53
    go_wp2
    go_ret
    exact ⟨by simp [spanB]; omega, HB.alloc (Nat.le_refl _) _⟩
theorem asked1_any (a b : Int) (w : World) : Calls Try.prog 105 #[.agg #[.int .i64 a, .int .i64 b]] w fun e w' => e = .returned (.bool (!(spanB a b 1 2000))) ∧ Below w.heap.size w w' := by
  have HB := Below.refl w.heap.size w
  go_enter Try.func105, Try.ntmps105
  go_wp2_with (first | (go_at_call 53; refine (span_any _ _ _ _ _).mono ?_; rintro e w' ⟨rfl, hb⟩))
  go_ret
  exact ⟨rfl, (HB.alloc (Nat.le_refl _) _).trans (hb.mono (by simp))⟩
theorem passes2_any (a : Int) (w : World) : Calls Try.prog 93 #[.int .i64 a] w fun e w' => e = .returned (.bool (!(betw a 0 4000))) ∧ w = w' := by
  go_enter Try.func93, Try.ntmps93
  go_wp2_with (first | (go_at_call 67; refine (within_any _ _ _ _).mono ?_; rintro e w' ⟨rfl, rfl⟩))
  go_ret
  exact ⟨rfl, rfl⟩
theorem rd_get {l : List S29} {k : Nat} (h : k < l.length) : rd_T29 l (k : Int) = l[k] := by
  simp [rd_T29, List.getD, h]
theorem rd_get0 {l : List Int} {k : Nat} (h : k < l.length) : rd l (k : Int) = l[k] := by
  simp [rd, List.getD, h]
def okThick (x : S29) : Bool := spanB x.f0 x.f1 1 2000
theorem any_none {α : Type} {l : List α} {p : α → Bool} (h : ∀ (j : Nat) (hj : j < l.length), p l[j] = false) : l.any p = false := by
  rw [Bool.eq_false_iff]
  intro hc
  rw [List.any_eq_true] at hc
  obtain ⟨x, hx, hp⟩ := hc
  obtain ⟨i, hi, rfl⟩ := List.getElem_of_mem hx
  rw [h i hi] at hp
  cases hp
theorem any_some {α : Type} {l : List α} {p : α → Bool} {j : Nat} (hj : j < l.length) (h : p l[j] = true) : l.any p = true := by
  rw [List.any_eq_true]
  exact ⟨l[j], List.getElem_mem hj, h⟩
/-- what IndexFunc hands back, as far as ContainsFunc looks -/
def AtLeast (b : Bool) (w : World) (e : Ending) (w' : World) : Prop := ∃ r : Int, e = .returned (.int .i64 r) ∧ decide (0 ≤ r) = b ∧ Below w.heap.size w w'
set_option maxRecDepth 100000 in
theorem index105 (A : Option Addr) (c : Nat) (l : List S29) (w : World) (hr : Kd.C k29 w A l.length l) (hl : l.length ≤ 140737488351232) :
    Calls Try.prog 117 #[.slice A l.length c, .func (.func 105) #[] #[]] w (AtLeast (l.any fun x => !(okThick x)) w) := by
  have hu := Try.underlying29
  go_enter Try.func117, Try.ntmps117
  go_wp2
  go_loopw [8] (fun v8 wr => ∃ k : Nat, k ≤ l.length ∧ v8 = .int .i64 k ∧ Hid (Below w.heap.size w wr) ∧ Hid (∀ (j : Nat) (h : j < l.length), j < k → okThick l[j] = true)) (fun v8 _ => l.length - (intOf v8).toNat)
  case atStart => exact ⟨0, by omega, rfl, Below.refl _ _, fun _ _ h => absurd h (by omega)⟩
  case round =>
    obtain ⟨k, hk, rfl, HB, HK⟩ := hrel
    by_cases hlt : k < l.length
    · have hc := at_T29 (Kd.C_below hr HB.out) k (by omega) (by omega)
      obtain ⟨ad, rfl, c0, c1⟩ := hc
      rw [rd_get hlt] at c0 c1
      simp only [Int.toNat_natCast] at c0 c1
      go_wp2_with (first | (go_at_call 105; refine (asked1_any _ _ _).mono ?_; rintro e w' ⟨rfl, hb⟩))
      · go_ret
        rename_i hx
        exact ⟨k, rfl, by rw [any_some hlt (by simpa [okThick] using hx)]; simp, HB.out.trans (hb.mono HB.out.size)⟩
      · rename_i hx
        have HK' : Hid (∀ (j : Nat) (h : j < l.length), j < k + 1 → okThick l[j] = true) := fun j h hj => by
          by_cases e : j = k
          · subst e; simpa [okThick] using hx
          · exact HK.out j h (by omega)
        have HB' : Hid (Below w.heap.size w w') := HB.out.trans (hb.mono HB.out.size)
        go_roundw
        case rel => exact ⟨k + 1, by omega, by go_num, HB', HK'⟩
        case measure => simp [intOf]; omega
    · go_wp2
      go_ret
      exact ⟨-1, rfl, by rw [any_none (fun j hj => by rw [HK.out j hj (by omega)]; rfl)]; rfl, HB.out⟩
theorem contains105 (A : Option Addr) (c : Nat) (l : List S29) (w : World) (hr : Kd.C k29 w A l.length l) (hl : l.length ≤ 140737488351232) :
    Calls Try.prog 104 #[.slice A l.length c, .func (.func 105) #[] #[]] w fun e w' => e = .returned (.bool (l.any fun x => !(okThick x))) ∧ Below w.heap.size w w' := by
  go_enter Try.func104, Try.ntmps104
  go_wp2_with (first | (go_at_call 117; refine (index105 _ _ _ _ hr hl).mono ?_; rintro e w' ⟨r, rfl, hr0, hb⟩))
  go_ret
  exact ⟨rfl, hb⟩
end Go.Proofs.Ythoofldinnfpiaa
