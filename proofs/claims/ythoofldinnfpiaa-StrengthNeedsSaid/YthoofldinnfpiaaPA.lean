import Derived.Test.YthoofldinnfpiaaNE
namespace Go.Proofs.Ythoofldinnfpiaa
open Go.RowKit Go.Proofs.YthoofldinnfpiaaW.PrintWords Go.Proofs.YthoofldinnfpiaaW.PrintLast Go.Proofs.YthoofldinnfpiaaW.PrintMore
open Q Go.Shelf
attribute [local go_sem] Oper.semAt_some wide_depth wide_fn
set_option linter.unusedVariables false
set_option linter.unusedSimpArgs false
theorem rd_int {l : List Int} {k : Nat} (h : k < l.length) : rd l (k : Int) = l[k] := by simp [rd, List.getD, h]
set_option maxRecDepth 100000 in
theorem index93 (A : Option Addr) (c : Nat) (l : List Int) (w : World) (hr : Kd.C (Kd.int .i64) w A l.length l) (hl : l.length ≤ 140737488351232) :
    Calls Try.prog 114 #[.slice A l.length c, .func (.func 93) #[] #[]] w (AtLeast (l.any fun x => !(betw x 0 4000)) w) := by
  go_enter Try.func114, Try.ntmps114
  go_wp2
  go_loopw [8] (fun v8 wr => ∃ k : Nat, k ≤ l.length ∧ v8 = .int .i64 k ∧ Hid (Below w.heap.size w wr) ∧ Hid (∀ (j : Nat) (h : j < l.length), j < k → betw l[j] 0 4000 = true)) (fun v8 _ => l.length - (intOf v8).toNat)
  case atStart => exact ⟨0, by omega, rfl, Below.refl _ _, fun _ _ h => absurd h (by omega)⟩
  case round =>
    obtain ⟨k, hk, rfl, HB, HK⟩ := hrel
    by_cases hlt : k < l.length
    · have hc := Kd.at_int (Kd.C_below hr HB.out) k (by omega) (by omega)
      obtain ⟨ad, rfl, c0⟩ := hc
      rw [rd_int hlt] at c0
      simp only [Int.toNat_natCast] at c0
      go_wp2_with (first | (go_at_call 93; refine (passes2_any _ _).mono ?_; rintro e w' ⟨rfl, rfl⟩))
      · go_ret
        rename_i hx
        exact ⟨k, rfl, by rw [any_some hlt (by simpa using hx)]; simp, HB.out⟩
      · rename_i hx
        have HK' : Hid (∀ (j : Nat) (h : j < l.length), j < k + 1 → betw l[j] 0 4000 = true) := fun j h hj => by
          by_cases e : j = k
          · subst e; simpa using hx
          · exact HK.out j h (by omega)
        go_roundw
        case rel => exact ⟨k + 1, by omega, by go_num, HB, HK'⟩
        case measure => simp [intOf]; omega
    · go_wp2
      go_ret
      exact ⟨-1, rfl, by rw [any_none (fun j hj => by rw [HK.out j hj (by omega)]; rfl)]; rfl, HB.out⟩
theorem contains93 (A : Option Addr) (c : Nat) (l : List Int) (w : World) (hr : Kd.C (Kd.int .i64) w A l.length l) (hl : l.length ≤ 140737488351232) :
    Calls Try.prog 92 #[.slice A l.length c, .func (.func 93) #[] #[]] w fun e w' => e = .returned (.bool (l.any fun x => !(betw x 0 4000))) ∧ Below w.heap.size w w' := by
  go_enter Try.func92, Try.ntmps92
  go_wp2_with (first | (go_at_call 114; refine (index93 _ _ _ _ hr hl).mono ?_; rintro e w' ⟨r, rfl, hr0, hb⟩))
  go_ret
  exact ⟨rfl, hb⟩
set_option maxRecDepth 100000 in
theorem index0 (A : Option Addr) (c : Nat) (l : List Int) (w : World) (hr : Kd.C (Kd.int .i64) w A l.length l) (hl : l.length ≤ 140737488351232) :
    Calls Try.prog 123 #[.slice A l.length c, .int .i64 0] w (AtLeast (l.any fun x => decide (x = 0)) w) := by
  go_enter Try.func123, Try.ntmps123
  go_wp2
  go_loopw [8] (fun v8 wr => ∃ k : Nat, k ≤ l.length ∧ v8 = .int .i64 k ∧ Hid (Below w.heap.size w wr) ∧ Hid (∀ (j : Nat) (h : j < l.length), j < k → ¬ l[j] = 0)) (fun v8 _ => l.length - (intOf v8).toNat)
  case atStart => exact ⟨0, by omega, rfl, Below.refl _ _, fun _ _ h => absurd h (by omega)⟩
  case round =>
    obtain ⟨k, hk, rfl, HB, HK⟩ := hrel
    by_cases hlt : k < l.length
    · have hc := Kd.at_int (Kd.C_below hr HB.out) k (by omega) (by omega)
      obtain ⟨ad, rfl, c0⟩ := hc
      rw [rd_int hlt] at c0
      simp only [Int.toNat_natCast] at c0
      by_cases hx : l[k] = 0
      · rw [hx] at c0
        have HX := hid hx
        clear hx
        go_wp2
        go_ret
        exact ⟨k, rfl, by rw [any_some hlt (by simpa using HX.out)]; simp, HB.out⟩
      · have hx2 : ((0 : Int) == l[k]) = false := by simp; omega
        have HK' : Hid (∀ (j : Nat) (h : j < l.length), j < k + 1 → ¬ l[j] = 0) := fun j h hj => by
          by_cases e : j = k
          · subst e; exact hx
          · exact HK.out j h (by omega)
        have hx3 : ¬ (0 : Int) = l[k] := fun h => hx h.symm
        go_wp2
        go_roundw
        case rel => exact ⟨k + 1, by omega, by go_num, HB, HK'⟩
        case measure => simp [intOf]; omega
    · go_wp2
      go_ret
      exact ⟨-1, rfl, by rw [any_none (fun j hj => by simpa using HK.out j hj (by omega))]; rfl, HB.out⟩
theorem contains0 (A : Option Addr) (c : Nat) (l : List Int) (w : World) (hr : Kd.C (Kd.int .i64) w A l.length l) (hl : l.length ≤ 140737488351232) :
    Calls Try.prog 115 #[.slice A l.length c, .int .i64 0] w fun e w' => e = .returned (.bool (l.any fun x => decide (x = 0))) ∧ Below w.heap.size w w' := by
  go_enter Try.func115, Try.ntmps115
  go_wp2_with (first | (go_at_call 123; refine (index0 _ _ _ _ hr hl).mono ?_; rintro e w' ⟨r, rfl, hr0, hb⟩))
  go_ret
  exact ⟨rfl, hb⟩
/- Passes -/
def passErr (l : List S82) (fl tg p f s o : Int) (ms : List Int) (acc : Int) : Int :=
  if loadedOf l fl tg p f s o = 0 then (if (decide (ms.length = l.length) && (ms.all (fun x => betw x 0 4000) && betw acc 0 2000)) = true then 0 else 1) else loadedOf l fl tg p f s o
def passAt (acc n m : Int) : Bool := !(decide (n = 0)) && (!(decide (m - acc < n)) && !(decide (2000 < m)))
def passOk (need ms : List Int) (acc : Int) : Bool := (need.zip ms).all fun x => passAt acc x.1 x.2
def passesRes (l : List S82) (fl tg p f s o : Int) (ms : List Int) (acc : Int) : Bool × Int := if passErr l fl tg p f s o ms acc = 0 then (passOk (needOf l fl tg p f s o) ms acc, 0) else (false, passErr l fl tg p f s o ms acc)
theorem int_row {w : World} {base : Nat} {v : Value} {xs : List Int} (h : w.ownsRow base 3 1 v xs.length (xs.flatMap fun x => [.int .i64 x])) : ∃ A c, v = .slice A xs.length c ∧ Kd.C (Kd.int .i64) w A xs.length xs ∧ xs.length ≤ c := by
  have h2 := Rint_of (f := fun x => x) h
  rw [List.map_id'] at h2
  obtain ⟨A, c, rfl⟩ := Kd.R_slice h2
  exact ⟨A, c, rfl, (Kd.R_reads' h2).2.2, (Kd.R_reads' h2).2.1⟩
set_option maxRecDepth 100000 in
set_option maxHeartbeats 4000000 in
theorem Passes_any (A : Option Addr) (c : Nat) (l : List S82) (fl tg p f s o : Int) (A9 : Option Addr) (c9 : Nat) (ms : List Int) (acc : Int) (w : World) (hr : Kd.C k82 w A l.length l) (hr9 : Kd.C (Kd.int .i64) w A9 ms.length ms) (hms : ms.length ≤ 100000) :
    Calls Try.prog 42 #[.agg #[.slice A l.length c, .int .i64 fl, .int .i64 tg], .agg #[.int .i64 p, .int .i64 f, .int .i64 s, .int .i64 o], .slice A9 ms.length c9, .int .i64 acc] w fun e w' => e = .returned (.tuple #[.bool (passesRes l fl tg p f s o ms acc).1, .int .i64 (passesRes l fl tg p f s o ms acc).2]) ∧ Below w.heap.size w w' := by
  have HB := Below.refl w.heap.size w
  have hmf := makeFunc_any
  refine calls_of_wpF Try.func42 rfl (wpF_of_wp ?_)
  simp only [Try.ntmps42, List.size_toArray, List.length_cons, List.length_nil, Nat.reduceAdd, Nat.reduceSub, Array.replicate_succ, Array.replicate_zero, List.push_toArray, List.append_toArray, List.nil_append, List.cons_append]
  go_wp2_with fail
  have hbel := ((HB.alloc (Nat.le_refl _) (.cells #[.slice A l.length c, .int .i64 fl, .int .i64 tg] 24)).alloc (by simp) (.cells #[.int .i64 p, .int .i64 f, .int .i64 s, .int .i64 o] 27)).alloc (by simp; omega) (.cells #[.int .i64 0] 36)
  refine (check_any A c l fl tg _ (Kd.C_below hr hbel)).mono ?_
  rintro e w1 ⟨he, hb⟩
  have hc : w1.cell? ⟨w.heap.size + 1 + 1, 0, none⟩ = some (.int .i64 0) := cell_grow (by go_simp) hb
  have b0 : w1.cell? ⟨w.heap.size, 0, none⟩ = some (.slice A l.length c) := cell_grow (by go_simp) hb
  have b1 : w1.cell? ⟨w.heap.size, 1, none⟩ = some (.int .i64 fl) := cell_grow (by go_simp) hb
  have b2 : w1.cell? ⟨w.heap.size, 2, none⟩ = some (.int .i64 tg) := cell_grow (by go_simp) hb
  have l0 : w1.cell? ⟨w.heap.size + 1, 0, none⟩ = some (.int .i64 p) := cell_grow (by go_simp) hb
  have l1 : w1.cell? ⟨w.heap.size + 1, 1, none⟩ = some (.int .i64 f) := cell_grow (by go_simp) hb
  have l2 : w1.cell? ⟨w.heap.size + 1, 2, none⟩ = some (.int .i64 s) := cell_grow (by go_simp) hb
  have l3 : w1.cell? ⟨w.heap.size + 1, 3, none⟩ = some (.int .i64 o) := cell_grow (by go_simp) hb
  have hf : w1.frozen? ⟨w.heap.size + 1 + 1, 0, none⟩ = false := frozen_grow (v := .int .i64 0) (by go_simp) (by go_simp) hb
  have HBB := hid (hbel.trans (hb.mono (by simp; omega)))
  clear hb hbel HB
  by_cases h0 : ¬ checkOf l fl tg = 0
  · rw [if_neg h0] at he
    subst he
    have hL : loadedOf l fl tg p f s o = checkOf l fl tg := by unfold loadedOf; rw [if_neg h0]
    refine leaves_fail catches91 enters91 hc hf ?_
    exact ⟨.tuple #[.bool false, .int .i64 (checkOf l fl tg)], by simp [results, Try.results42, go_sem, caughtW_cell hc], by unfold passesRes passErr; rw [hL, if_neg h0, if_neg h0], caughtW_below HBB.out (by omega)⟩
  have h0' := Decidable.not_not.1 h0
  rw [if_pos h0'] at he
  subst he
  have H0 := hid h0'
  have HF := hid hf
  clear h0 h0' hf
  go_wp2_with fail
  refine (checkLoad_any p f s o _).mono ?_
  rintro e w2 ⟨he, hb⟩
  have hf := frozen_grow hc HF.out hb
  have hc := cell_grow hc hb
  have b0 := cell_grow b0 hb
  have b1 := cell_grow b1 hb
  have b2 := cell_grow b2 hb
  have l0 := cell_grow l0 hb
  have l1 := cell_grow l1 hb
  have l2 := cell_grow l2 hb
  have l3 := cell_grow l3 hb
  have HBB := hid (HBB.out.trans (hb.mono HBB.out.size))
  clear hb HF
  by_cases hl : ¬ loadOk p f s o = true
  · rw [if_neg hl, if_neg (by decide)] at he
    subst he
    have hL : loadedOf l fl tg p f s o = 1 := by unfold loadedOf; rw [if_pos H0.out, if_neg hl]
    refine leaves_fail catches91 enters91 hc hf ?_
    exact ⟨.tuple #[.bool false, .int .i64 1], by simp [results, Try.results42, go_sem, caughtW_cell hc], by unfold passesRes passErr; rw [hL]; rfl, caughtW_below HBB.out (by omega)⟩
  have hl' := Decidable.not_not.1 hl
  rw [if_pos hl', if_pos rfl] at he
  subst he
  have HL := hid hl'
  have HF := hid hf
  clear hl hl' hf
  have hL : loadedOf l fl tg p f s o = 0 := by unfold loadedOf; rw [if_pos H0.out, if_pos HL.out]
  have HLd := hid hL
  clear hL
  have HR9 := hid (Kd.C_below hr9 HBB.out)
  by_cases hn : ¬ ms.length = l.length
  · have k1 : ((ms.length : Int) == (l.length : Int)) = false := by simp; omega
    have k2 : (ms.length == l.length) = false := by simp; omega
    have hE : passErr l fl tg p f s o ms acc = 1 := by unfold passErr; rw [if_pos HLd.out, decide_eq_false hn]; rfl
    clear hn
    go_wp2_with (first | (go_at_call 52; refine (demand_no _ _).mono ?_; rintro e w' ⟨rfl, rfl⟩))
    have hf := HF.out
    refine leaves_fail catches91 enters91 hc hf ?_
    exact ⟨.tuple #[.bool false, .int .i64 1], by simp [results, Try.results42, go_sem, caughtW_cell hc], by unfold passesRes; rw [hE]; rfl, caughtW_below HBB.out (by omega)⟩
  have hn' := Decidable.not_not.1 hn
  have k1 : ((ms.length : Int) == (l.length : Int)) = true := by simp; omega
  have k2 : (ms.length == l.length) = true := by simp; omega
  have HN := hid hn'
  clear hn hn'
  go_wp2_with fail
  refine (contains93 _ _ _ _ HR9.out (by omega)).mono ?_
  rintro e w3 ⟨rfl, hb⟩
  have hf := frozen_grow hc HF.out hb
  have hc := cell_grow hc hb
  have b0 := cell_grow b0 hb
  have b1 := cell_grow b1 hb
  have b2 := cell_grow b2 hb
  have l0 := cell_grow l0 hb
  have l1 := cell_grow l1 hb
  have l2 := cell_grow l2 hb
  have l3 := cell_grow l3 hb
  have HBB := hid (HBB.out.trans (hb.mono HBB.out.size))
  clear hb HF
  have HR9 := hid (Kd.C_below hr9 HBB.out)
  rw [all_any]
  cases hm : ms.all (fun x => betw x 0 4000) with
  | false =>
    have hE : passErr l fl tg p f s o ms acc = 1 := by unfold passErr; rw [if_pos HLd.out, hm]; simp
    clear hm
    simp only [Bool.not_false, Bool.not_true]
    go_wp2_with (first | (go_at_call 52; refine (demand_no _ _).mono ?_; rintro e w' ⟨rfl, rfl⟩))
    refine leaves_fail catches91 enters91 hc hf ?_
    exact ⟨.tuple #[.bool false, .int .i64 1], by simp [results, Try.results42, go_sem, caughtW_cell hc], by unfold passesRes; rw [hE]; rfl, caughtW_below HBB.out (by omega)⟩
  | true =>
  have HM := hid hm
  clear hm
  simp only [Bool.not_false, Bool.not_true]
  cases hac : betw acc 0 2000 with
  | false =>
    have hE : passErr l fl tg p f s o ms acc = 1 := by unfold passErr; rw [if_pos HLd.out, hac]; simp
    have HE := hid hE
    clear hE
    have hac' := hac
    go_wp2_with (first | (go_at_call 67; refine (within_any _ _ _ _).mono ?_; rintro e w' ⟨rfl, rfl⟩; rw [hac']) | (go_at_call 52; refine (demand_no _ _).mono ?_; rintro e w' ⟨rfl, rfl⟩))
    refine leaves_fail catches91 enters91 hc hf ?_
    exact ⟨.tuple #[.bool false, .int .i64 1], by simp [results, Try.results42, go_sem, caughtW_cell hc], by unfold passesRes; rw [HE.out]; rfl, caughtW_below HBB.out (by omega)⟩
  | true =>
  have hE : passErr l fl tg p f s o ms acc = 0 := by unfold passErr; rw [if_pos HLd.out, hac, HM.out, HN.out]; simp
  have HE := hid hE
  have HAC := hid hac
  have hac' := hac
  have HF := hid hf
  clear hE hac hf
  go_wp2_with (first | (go_at_call 67; refine (within_any _ _ _ _).mono ?_; rintro e w' ⟨rfl, rfl⟩; rw [hac']) | (go_at_call 52; refine (demand_ok _ _).mono ?_; rintro e w' ⟨rfl, rfl⟩))
  refine (needed_any A c l fl tg p f s o _ (Kd.C_below hr HBB.out) H0.out HL.out).mono ?_
  rintro e w4 ⟨v, rfl, hO, hb⟩
  have hc4 := cell_grow hc hb
  have hf4 := frozen_grow hc HF.out hb
  have HB4 := hid (HBB.out.trans (hb.mono HBB.out.size))
  obtain ⟨Ad, cd, rfl, hCn, hln⟩ := int_row hO
  have hnl : (needOf l fl tg p f s o).length = ms.length := by unfold needOf; rw [List.length_map, HN.out]
  obtain ⟨nd, hnd⟩ : ∃ nd, needOf l fl tg p f s o = nd := ⟨_, rfl⟩
  rw [hnd] at hCn hnl
  rw [hnd]
  have HND := hid hnd
  have HCN := hid hCn
  have HNL := hid hnl
  have HSZ := hid (cell_lt hc)
  have hR9 := Kd.C_below hr9 HB4.out
  have HR94 := hid hR9
  clear hb hO hln hnd hCn hnl hR9 HR9 HF hc b0 b1 b2 l0 l1 l2 l3 k1 k2 hac'
  go_wp2
  go_loopw [37] (fun v37 X => ∃ k : Nat, k ≤ nd.length ∧ v37 = .int .i64 k ∧ Hid (Below w4.heap.size w4 X) ∧ Hid (∀ (j : Nat) (h : j < nd.length) (h' : j < ms.length), j < k → passAt acc nd[j] ms[j] = true)) (fun v37 _ => nd.length - (intOf v37).toNat)
  case atStart => exact ⟨0, by omega, rfl, Below.refl _ _, fun _ _ _ h => absurd h (by omega)⟩
  case round =>
  obtain ⟨k, hk, rfl, HX, HK⟩ := hrel
  have hc5 := cell_grow hc4 HX.out
  have hf5 := frozen_grow hc4 hf4 HX.out
  by_cases hlt : k < nd.length
  · have hlt' : k < ms.length := by rw [← HNL.out]; exact hlt
    have hd : decide ((k : Int) < (nd.length : Int)) = true := decide_eq_true (by omega)
    obtain ⟨a1, rfl, d1⟩ := Kd.at_int (Kd.C_below HCN.out HX.out) k (by omega) (by omega)
    obtain ⟨a2, rfl, d2⟩ := Kd.at_int (Kd.C_below HR94.out HX.out) k (by omega) (by omega)
    rw [rd_int hlt] at d1
    rw [rd_int hlt'] at d2
    simp only [Int.toNat_natCast] at d1 d2
    have hb1 := List.all_eq_true.1 HM.out _ (List.getElem_mem hlt')
    have hb2 := HAC.out
    simp only [betw, Bool.and_eq_true, decide_eq_true_eq] at hb1 hb2
    have hwr : wrap64 (ms[k] - acc) = ms[k] - acc := wrap64_id (by omega) (by omega)
    have HKK : passAt acc nd[k] ms[k] = true → Hid (∀ (j : Nat) (h : j < nd.length) (h' : j < ms.length), j < k + 1 → passAt acc nd[j] ms[j] = true) := fun hx => hid fun j h h' hj => by
      by_cases e : j = k
      · subst e; exact hx
      · exact HK.out j h h' (by omega)
    have hbad : passAt acc nd[k] ms[k] = false → passOk nd ms acc = false := fun hx => by
      unfold passOk
      rw [Bool.eq_false_iff]
      intro hc
      have := List.all_eq_true.1 hc (nd[k], ms[k]) (by rw [List.mem_iff_getElem]; exact ⟨k, by rw [List.length_zip]; omega, by simp⟩)
      simp only at this
      rw [hx] at this; cases this
    have HBAD := hid hbad
    have HKH := hid HKK
    have HWR := hid hwr
    clear hb1 hb2 hbad HKK hwr
    have hres : Hid (passesRes l fl tg p f s o ms acc = (passOk nd ms acc, 0)) := hid (by unfold passesRes; rw [if_pos HE.out, HND.out])
    cases hp : passAt acc nd[k] ms[k] with
    | false =>
      have HP := hid hp
      have hp' : nd[k] = 0 ∨ ms[k] - acc < nd[k] ∨ 2000 < ms[k] := by
        unfold passAt at hp
        simp only [Bool.and_eq_false_iff, Bool.not_eq_false', decide_eq_true_eq] at hp
        omega
      clear hp
      by_cases g1 : nd[k] = 0
      · have s1 : (nd[k] == 0) = true := by simpa using g1
        clear hp'
        go_wp2
        refine leaves_idle catches91 enters91 ?_
        exact ⟨.tuple #[.bool false, .int .i64 0], by simp [results, Try.results42, go_sem, hc5], by rw [hres.out, HBAD.out HP.out], (HB4.out.trans (HX.out.mono HB4.out.size)).setCell (p := ⟨w.heap.size + 1 + 1, 0, none⟩) (by simp; omega) _⟩
      · have s1 : (nd[k] == 0) = false := by simpa using g1
        by_cases g2 : ms[k] - acc < nd[k]
        · have s2 : decide (wrap64 (ms[k] - acc) < nd[k]) = true := decide_eq_true (by rw [HWR.out]; exact g2)
          clear hp'
          go_wp2
          refine leaves_idle catches91 enters91 ?_
          exact ⟨.tuple #[.bool false, .int .i64 0], by simp [results, Try.results42, go_sem, hc5], by rw [hres.out, HBAD.out HP.out], (HB4.out.trans (HX.out.mono HB4.out.size)).setCell (p := ⟨w.heap.size + 1 + 1, 0, none⟩) (by simp; omega) _⟩
        · have s2 : decide (wrap64 (ms[k] - acc) < nd[k]) = false := decide_eq_false (by rw [HWR.out]; exact g2)
          have s3 : decide (2000 < ms[k]) = true := decide_eq_true (by omega)
          clear hp'
          go_wp2
          refine leaves_idle catches91 enters91 ?_
          exact ⟨.tuple #[.bool false, .int .i64 0], by simp [results, Try.results42, go_sem, hc5], by rw [hres.out, HBAD.out HP.out], (HB4.out.trans (HX.out.mono HB4.out.size)).setCell (p := ⟨w.heap.size + 1 + 1, 0, none⟩) (by simp; omega) _⟩
    | true =>
      have HP := hid (HKH.out hp)
      have hp' : ¬ nd[k] = 0 ∧ ¬ ms[k] - acc < nd[k] ∧ ¬ 2000 < ms[k] := by
        unfold passAt at hp
        simp only [Bool.and_eq_true, Bool.not_eq_true', decide_eq_false_iff_not] at hp
        omega
      clear hp
      have s1 : (nd[k] == 0) = false := by simpa using hp'.1
      have s2 : decide (wrap64 (ms[k] - acc) < nd[k]) = false := decide_eq_false (by rw [HWR.out]; exact hp'.2.1)
      have s3 : decide (2000 < ms[k]) = false := decide_eq_false hp'.2.2
      have s4 := hp'.1
      have rk : wrap64 ((k : Int) + 1) = ((k + 1 : Nat) : Int) := by rw [wrap64_id (by omega) (by omega)]; simp
      clear hp'
      clear rk
      go_wp2
      go_roundw
      case rel => exact ⟨k + 1, by omega, by go_num, HX, HP⟩
      case measure => simp [intOf]; omega
  · have hd : decide ((k : Int) < (nd.length : Int)) = false := decide_eq_false (by omega)
    have hres : Hid (passesRes l fl tg p f s o ms acc = (true, 0)) := hid (by
      unfold passesRes
      rw [if_pos HE.out, HND.out]
      congr 1
      unfold passOk
      rw [List.all_eq_true]
      intro x hx
      obtain ⟨j, hj, rfl⟩ := List.getElem_of_mem hx
      rw [List.length_zip] at hj
      simpa using HK.out j (by omega) (by omega) (by omega))
    go_wp2
    refine leaves_idle catches91 enters91 ?_
    exact ⟨.tuple #[.bool true, .int .i64 0], by simp [results, Try.results42, go_sem, hc5], by rw [hres.out], (HB4.out.trans (HX.out.mono HB4.out.size)).setCell (p := ⟨w.heap.size + 1 + 1, 0, none⟩) (by simp; omega) _⟩
end Go.Proofs.Ythoofldinnfpiaa
