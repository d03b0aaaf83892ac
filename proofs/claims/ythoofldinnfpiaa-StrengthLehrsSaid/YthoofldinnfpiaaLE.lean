import Derived.Test.YthoofldinnfpiaaG
import Derived.Test.YthoofldinnfpiaaUE
namespace Go.Proofs.Ythoofldinnfpiaa
open Go.RowKit Go.Proofs.YthoofldinnfpiaaW.PrintWords Go.Proofs.YthoofldinnfpiaaW.PrintLast Go.Proofs.YthoofldinnfpiaaW.PrintMore
open Q Go.Shelf
attribute [local go_sem] Oper.semAt_some wide_depth wide_fn
set_option linter.unusedVariables false
set_option linter.unusedSimpArgs false
theorem rd97 {kn : List S97} {k : Nat} (h : k < kn.length) : rd_T97 kn (k : Int) = kn[k] := by simp [rd_T97, List.getD, h]
/- a lehr -/
def kneeOk (kn : List S97) (i : Nat) : Bool := betw (kn.getD i z97).f0 0 2000 && (betw (kn.getD i z97).f1 0 10000 && (if i = 0 then decide ((kn.getD i z97).f0 = 0) else decide ((kn.getD (i - 1) z97).f0 < (kn.getD i z97).f0)))
def kneesOk (kn : List S97) : Bool := (List.range kn.length).all (kneeOk kn)
def lehrErr (kn : List S97) (fa : Int) : Int := if 24 < kn.length then 3 else if kn.length < 2 then 1 else if kneesOk kn = false then 1 else if betw fa 0 10000 = false then 1 else 0
theorem knees_bad {kn : List S97} {i : Nat} (h : i < kn.length) (hb : kneeOk kn i = false) : kneesOk kn = false := by
  rw [Bool.eq_false_iff]
  intro ha
  have := List.all_eq_true.1 ha i (List.mem_range.2 h)
  rw [hb] at this; cases this
set_option maxRecDepth 100000 in
set_option maxHeartbeats 4000000 in
set_option pp.deepTerms true in
set_option pp.maxSteps 1000000 in
theorem checkLehr_any (A : Option Addr) (c : Nat) (kn : List S97) (fa : Int) (w : World) (hr : Kd.C k97 w A kn.length kn) :
    Calls Try.prog 66 #[.agg #[.slice A kn.length c, .int .i64 fa]] w (Ends (lehrErr kn fa) w) := by
  have hu44 := Try.underlying44
  have hu97 := Try.underlying97
  have HB := Below.refl w.heap.size w
  by_cases h1 : ¬ kn.length ≤ 24
  · have hv : lehrErr kn fa = 3 := by unfold lehrErr; rw [if_pos (by omega)]
    have d1 : decide ((kn.length : Int) ≤ 24) = false := decide_eq_false (by omega)
    have d1' : decide (kn.length ≤ 24) = false := decide_eq_false (by omega)
    have HV := hid hv
    clear hv h1
    go_enter Try.func66, Try.ntmps66
    go_wp2_with (first | (go_at_call 52; with_reducible refine (demand_no _ _).mono ?_; rintro e w' ⟨rfl, rfl⟩))
    exact ⟨rfl, by rw [HV.out]; rfl, HB.alloc (Nat.le_refl _) _⟩
  have h1' := Decidable.not_not.1 h1
  have d1 : decide ((kn.length : Int) ≤ 24) = true := decide_eq_true (by omega)
  have d1' : decide (kn.length ≤ 24) = true := decide_eq_true (by omega)
  by_cases h2 : kn.length < 2
  · have hv : lehrErr kn fa = 1 := by unfold lehrErr; rw [if_neg (by omega), if_pos h2]
    have d2 : decide ((2 : Int) ≤ (kn.length : Int)) = false := decide_eq_false (by omega)
    have d2' : decide (2 ≤ kn.length) = false := decide_eq_false (by omega)
    have HV := hid hv
    clear hv h1 h1' h2
    go_enter Try.func66, Try.ntmps66
    go_wp2_with (first | (go_at_call 52; with_reducible refine (demand_ok _ _).mono ?_; rintro e w' ⟨rfl, rfl⟩) | (go_at_call 52; with_reducible refine (demand_no _ _).mono ?_; rintro e w' ⟨rfl, rfl⟩))
    exact ⟨rfl, by rw [HV.out]; rfl, HB.alloc (Nat.le_refl _) _⟩
  have d2 : decide ((2 : Int) ≤ (kn.length : Int)) = true := decide_eq_true (by omega)
  have d2' : decide (2 ≤ kn.length) = true := decide_eq_true (by omega)
  obtain ⟨ar, rfl⟩ : ∃ ar, A = some ar := by
    obtain ⟨ar, h, _⟩ := at_T97 hr 0 (by omega) (by omega)
    exact ⟨ar, h⟩
  have HLN := hid (And.intro h1' (Nat.le_of_not_lt h2))
  clear h1 h1' h2
  go_enter Try.func66, Try.ntmps66
  go_wp2_with (first | (go_at_call 52; with_reducible refine (demand_ok _ _).mono ?_; rintro e w' ⟨rfl, rfl⟩))
  clear d1 d2 d1' d2'
  have e0 := hid (World.alloc_heap_new w (.cells #[.slice (some ar) kn.length c, .int .i64 fa] 44))
  have hbel := hid (HB.alloc (Nat.le_refl _) (.cells #[.slice (some ar) kn.length c, .int .i64 fa] 44))
  generalize w.alloc (Obj.cells #[.slice (some ar) kn.length c, .int .i64 fa] 44) = W2 at *
  clear HB
  go_loopw [17] (fun v17 X => ∃ k : Nat, k ≤ kn.length ∧ v17 = .int .i64 k ∧ Hid (Below W2.heap.size W2 X ∧ ∀ j, j < k → kneeOk kn j = true)) (fun v17 _ => kn.length - (intOf v17).toNat)
  case atStart => exact ⟨0, by omega, rfl, hid ⟨Below.refl _ _, fun j h => absurd h (by omega)⟩⟩
  case round =>
  obtain ⟨k, hk, rfl, HX⟩ := hrel
  have hBw := hbel.out.trans (HX.out.1.mono hbel.out.size)
  have hbx := blkCell (heap_grow e0.out HX.out.1) 0
  have hby := blkCell (heap_grow e0.out HX.out.1) 1
  simp at hbx hby
  by_cases hlt : k < kn.length
  · have hd : decide ((k : Int) < (kn.length : Int)) = true := decide_eq_true (by omega)
    have hri := at_T97 (Kd.C_below hr hBw) k (by omega) (by omega)
    rw [rd97 hlt] at hri
    simp only [Int.toNat_natCast] at hri
    obtain ⟨ar', har', k0, k1⟩ := hri
    cases har'
    have hg : kn.getD k z97 = kn[k] := by simp [List.getD, hlt]
    have HBW := hid hBw
    have hbad : kneeOk kn k = false → lehrErr kn fa = 1 := fun hb => by
      unfold lehrErr
      rw [if_neg (by have := HLN.out; omega), if_neg (by have := HLN.out; omega), if_pos (knees_bad hlt hb)]
    have HBAD := hid hbad
    clear hBw hbad
    rename World => Wk
    by_cases b1 : betw kn[k].f0 0 2000 = false
    · have HV := hid (HBAD.out (by unfold kneeOk; rw [hg, b1]; rfl))
      go_wp2_with (first | (go_at_call 67; with_reducible refine (within_any _ _ _ _).mono ?_; rintro e w' ⟨rfl, rfl⟩; rw [b1]) | (go_at_call 52; with_reducible refine (demand_no _ _).mono ?_; rintro e w' ⟨rfl, rfl⟩))
      exact ⟨rfl, by rw [HV.out]; rfl, HBW.out.alloc HBW.out.size _⟩
    have b1' : betw kn[k].f0 0 2000 = true := by simpa using b1
    by_cases b2 : betw kn[k].f1 0 10000 = false
    · have HV := hid (HBAD.out (by unfold kneeOk; rw [hg, b2]; simp))
      go_wp2_with (first | (go_at_call 67; with_reducible refine (within_any _ _ _ _).mono ?_; rintro e w' ⟨rfl, rfl⟩; first | rw [b1'] | rw [b2]) | (go_at_call 52; with_reducible refine (demand_no _ _).mono ?_; rintro e w' ⟨rfl, rfl⟩))
      exact ⟨rfl, by rw [HV.out]; rfl, HBW.out.alloc HBW.out.size _⟩
    have b2' : betw kn[k].f1 0 10000 = true := by simpa using b2
    have hrg := World.alloc_heap_new Wk (.cells #[.int .i64 kn[k].f0, .int .i64 kn[k].f1] 97)
    have HRG := hid hrg
    clear hrg b1 b2
    have hkn := HLN.out
    have rk : wrap64 ((k : Int) + 1) = ((k + 1 : Nat) : Int) := by rw [wrap64_id (by omega) (by omega)]; simp
    have HNX := hid fun (hok : kneeOk kn k = true) j (hj : j < k + 1) => (by
      by_cases e : j = k
      · subst e; exact hok
      · exact HX.out.2 j (by omega) : kneeOk kn j = true)
    have HBX := HX.out.1
    clear HX
    by_cases hk0 : k = 0
    · have s0 : ((k : Int) == 0) = true := by simp; omega
      by_cases z0 : kn[k].f0 = 0
      · have s1 : (kn[k].f0 == 0) = true := by simp [z0]
        have HOK := hid (HNX.out (by unfold kneeOk; rw [hg, b1', b2', if_pos hk0, decide_eq_true z0]; rfl))
        clear z0 hk0
        go_wp2_with (first | (go_at_call 67; with_reducible refine (within_any _ _ _ _).mono ?_; rintro e w' ⟨rfl, rfl⟩; first | rw [b1'] | rw [b2']) | (go_at_call 52; with_reducible refine (demand_ok _ _).mono ?_; rintro e w' ⟨rfl, rfl⟩))
        try simp only [rk]
        clear rk
        go_roundw
        case rel => exact ⟨k + 1, by omega, rfl, hid ⟨HBX.alloc HBX.size _, HOK.out⟩⟩
        case measure => simp [intOf]; omega
      · have s1 : (kn[k].f0 == 0) = false := by simp [z0]
        have HV := hid (HBAD.out (by unfold kneeOk; rw [hg, b1', b2', if_pos hk0, decide_eq_false z0]; rfl))
        clear z0 hk0
        go_wp2_with (first | (go_at_call 67; with_reducible refine (within_any _ _ _ _).mono ?_; rintro e w' ⟨rfl, rfl⟩; first | rw [b1'] | rw [b2']) | (go_at_call 52; first | (with_reducible refine (demand_ok _ _).mono ?_; rintro e w' ⟨rfl, rfl⟩) | (with_reducible refine (demand_no _ _).mono ?_; rintro e w' ⟨rfl, rfl⟩)))
        exact ⟨rfl, by rw [HV.out]; rfl, HBW.out.alloc HBW.out.size _⟩
    · have s0 : ((k : Int) == 0) = false := by simp; omega
      have hk1 : IntKind.i64.wrap ((k : Int) - 1) = (k : Int) - 1 := by rw [wrap_i]; exact wrap64_id (by omega) (by omega)
      have hkt : ((k : Int) - 1).toNat = k - 1 := by omega
      have hri := at_T97 (Kd.C_below hr HBW.out) ((k - 1 : Nat) : Int) (by omega) (by omega)
      rw [rd97 (show k - 1 < kn.length by omega)] at hri
      simp only [Int.toNat_natCast] at hri
      obtain ⟨ar', har', m0, m1⟩ := hri
      cases har'
      have hgp : kn.getD (k - 1) z97 = kn[k - 1] := by simp [List.getD, show k - 1 < kn.length by omega]
      have hi0 : decide (0 ≤ (k : Int) - 1) = true := decide_eq_true (by omega)
      have hi1 : decide ((k : Int) - 1 < (kn.length : Int)) = true := decide_eq_true (by omega)
      have q0 := alloc_old (o' := .cells #[.int .i64 kn[k].f0, .int .i64 kn[k].f1] 97) (heap_grow e0.out HBX)
      go_wp2_with (first | (go_at_call 67; with_reducible refine (within_any _ _ _ _).mono ?_; rintro e w' ⟨rfl, rfl⟩; first | rw [b1'] | rw [b2']) | (go_at_call 52; with_reducible refine (demand_ok _ _).mono ?_; rintro e w' ⟨rfl, rfl⟩))
      refine wp_flow [[], [0], [], [2], [], [4], [3, 2, 5, 4], [6, 3, 2, 5, 4], [7, 6, 3, 2, 5, 4], [1, 0, 8, 7, 6, 3, 2, 5, 4], [9, 1, 0, 8, 7, 6, 3, 2, 5, 4]] 10
        (fun V => V.cell? ⟨w.heap.size, 0, none⟩ = some (.slice (some ar) kn.length c) ∧ V.cell? ⟨Wk.heap.size, 0, none⟩ = some (.int .i64 (kn[k].f0)) ∧ V.cell? (ar.add ((k - 1) * 2)) = some (.int .i64 kn[k - 1].f0) ∧ Below (Wk.alloc (.cells #[.int .i64 kn[k].f0, .int .i64 kn[k].f1] 97)).heap.size (Wk.alloc (.cells #[.int .i64 kn[k].f0, .int .i64 kn[k].f1] 97)) V)
        { tmps := #[.agg #[.slice (some ar) kn.length c, .int .i64 fa], .pointer (some ⟨w.heap.size, 0, none⟩), .int .i64 k, .pointer (some ⟨Wk.heap.size, 0, none⟩), .pointer (some ⟨w.heap.size, 0, none⟩), .slice (some ar) kn.length c, .int .i64 kn.length, .bool true, .tuple #[], .pointer (some ⟨w.heap.size, 0, none⟩), .slice (some ar) kn.length c, .int .i64 kn.length, .bool true, .tuple #[], .pointer (some ⟨w.heap.size, 0, none⟩), .slice (some ar) kn.length c, .int .i64 kn.length, .int .i64 k, .bool true, .int .i64 k, .pointer (some (ar.add (k * 2))), .agg #[.int .i64 kn[k].f0, .int .i64 kn[k].f1], .pointer (some ⟨Wk.heap.size, 0, none⟩), .int .i64 kn[k].f0, .bool true, .bool true, .pointer (some ⟨Wk.heap.size, 1, none⟩), .int .i64 kn[k].f1, .bool true, .bool true, .tuple #[], .int .i64 k, .bool false, u33, u34, u35, u36, .pointer (some ⟨Wk.heap.size, 0, none⟩), .int .i64 (kn[k].f0), .pointer (some ⟨w.heap.size, 0, none⟩), .slice (some ar) kn.length c, .int .i64 k, .int .i64 ((k : Int) - 1), .pointer (some (ar.add ((k - 1) * 2))), .pointer (some (ar.add ((k - 1) * 2))), .int .i64 (kn[k - 1].f0), .bool (decide (kn[k - 1].f0 < kn[k].f0)), u47, u48, undef, undef, undef, undef], defers := [] }
        mixed (by kernel_rfl) rfl (Ahead.of3 37 47 rfl rfl (by kernel_rfl) rfl rfl) ?_ (AllFlow.ops rfl ?_) rfl ?_
      · exact ⟨blkCell q0 0, blkCell HRG.out 0, cell_growp m0 (((Below.refl Wk.heap.size Wk).alloc (Nat.le_refl _) _).drew), (Below.refl _ _).drew⟩
      · refine ⟨?_, ?_, ?_, ?_, ?_, ?_, ?_, ?_, ?_, ?_, trivial⟩
        · exact .val 37 _ rfl rfl fun V ⟨y0, y1, x0, hB_⟩ => by go_simp
        · exact .val 38 _ rfl rfl fun V ⟨y0, y1, x0, hB_⟩ => by go_simp
        · exact .val 39 _ rfl rfl fun V ⟨y0, y1, x0, hB_⟩ => by go_simp
        · exact .val 40 _ rfl rfl fun V ⟨y0, y1, x0, hB_⟩ => by go_simp
        · exact .val 41 _ rfl rfl fun V ⟨y0, y1, x0, hB_⟩ => by go_simp
        · exact .val 42 _ rfl rfl fun V ⟨y0, y1, x0, hB_⟩ => by go_simp <;> exact hk1
        · exact .val 43 _ rfl rfl fun V ⟨y0, y1, x0, hB_⟩ => by go_simp <;> exact fun hh => absurd (hh (by omega)) (by omega)
        · exact .val 44 _ rfl rfl fun V ⟨y0, y1, x0, hB_⟩ => by go_simp
        · exact .val 45 _ rfl rfl fun V ⟨y0, y1, x0, hB_⟩ => by go_simp
        · exact .val 46 _ rfl rfl fun V ⟨y0, y1, x0, hB_⟩ => by go_simp
      · rintro V7 ⟨y0, y1, x0, hB_⟩
        have HB7 := hid (((Below.refl Wk.heap.size Wk).alloc (Nat.le_refl _) (.cells #[.int .i64 kn[k].f0, .int .i64 kn[k].f1] 97)).trans (hB_.mono (by simp)))
        clear y0 y1 x0 hB_
        cases hs : decide (kn[k - 1].f0 < kn[k].f0) with
        | true =>
          have HOK := hid (HNX.out (by unfold kneeOk; rw [hg, hgp, b1', b2', if_neg hk0, hs]; rfl))
          clear hs
          go_wp2_with (first | (go_at_call 52; with_reducible refine (demand_ok _ _).mono ?_; rintro e w' ⟨rfl, rfl⟩))
          go_roundw
          case rel => exact ⟨k + 1, by omega, by first | rfl | simp, hid ⟨HBX.trans (HB7.out.mono HBX.size), HOK.out⟩⟩
          case measure => simp [intOf]; omega
        | false =>
          have HV := hid (HBAD.out (by unfold kneeOk; rw [hg, hgp, b1', b2', if_neg hk0, hs]; rfl))
          clear hs
          go_wp2_with (first | (go_at_call 52; with_reducible refine (demand_no _ _).mono ?_; rintro e w' ⟨rfl, rfl⟩))
          exact ⟨rfl, by rw [HV.out]; rfl, HBW.out.trans (HB7.out.mono HBW.out.size)⟩
  · have hd : decide ((k : Int) < (kn.length : Int)) = false := decide_eq_false (by omega)
    obtain rfl : k = kn.length := by omega
    have hks : kneesOk kn = true := List.all_eq_true.2 fun j hj => HX.out.2 j (List.mem_range.1 hj)
    have HBW := hid hBw
    have hkn := HLN.out
    by_cases b3 : betw fa 0 10000 = true
    · have HV := hid (show lehrErr kn fa = 0 by unfold lehrErr; rw [if_neg (by omega), if_neg (by omega), if_neg (by rw [hks]; decide), if_neg (by rw [b3]; decide)])
      clear hBw HX
      go_wp2_with (first | (go_at_call 67; with_reducible refine (within_any _ _ _ _).mono ?_; rintro e w' ⟨rfl, rfl⟩; first | rw [b3]) | (go_at_call 52; with_reducible refine (demand_ok _ _).mono ?_; rintro e w' ⟨rfl, rfl⟩))
      refine bodyPost_ret (v := .tuple #[]) (by simp [results, Try.results66, go_sem]) rfl ⟨by rw [HV.out]; rfl, HBW.out⟩
    · have b3' : betw fa 0 10000 = false := by simpa using b3
      have HV := hid (show lehrErr kn fa = 1 by unfold lehrErr; rw [if_neg (by omega), if_neg (by omega), if_neg (by rw [hks]; decide), if_pos b3'])
      clear hBw HX
      go_wp2_with (first | (go_at_call 67; with_reducible refine (within_any _ _ _ _).mono ?_; rintro e w' ⟨rfl, rfl⟩; first | rw [b3']) | (go_at_call 52; with_reducible refine (demand_no _ _).mono ?_; rintro e w' ⟨rfl, rfl⟩))
      exact ⟨rfl, by rw [HV.out]; rfl, HBW.out⟩
end Go.Proofs.Ythoofldinnfpiaa
