import Derived.Test.YthoofldinnfpiaaRN
import Derived.Test.YthoofldinnfpiaaN44
namespace Go.Proofs.Ythoofldinnfpiaa
open Go.RowKit Go.Proofs.YthoofldinnfpiaaW.PrintWords Go.Proofs.YthoofldinnfpiaaW.PrintLast Go.Proofs.YthoofldinnfpiaaW.PrintMore
open Q Go.Shelf
attribute [local go_sem] Oper.semAt_some wide_depth wide_fn
set_option linter.unusedVariables false
set_option linter.unusedSimpArgs false
set_option maxRecDepth 100000 in
set_option maxHeartbeats 4000000 in
set_option pp.deepTerms true in
set_option pp.maxSteps 1000000 in
theorem Passes45_any (A : Option Addr) (c : Nat) (l : List S82) (fl tg p f s o : Int) (A9 : Option Addr) (c9 : Nat) (ms : List Int) (acc : Int) (w : World) (hr : Kd.C k82 w A l.length l) (hc : l.length ≤ c) (hr9 : Kd.C (Kd.int .i64) w A9 ms.length ms) (hms : ms.length ≤ 100000) :
    Calls Try.prog 45 #[.agg #[.slice A l.length c, .int .i64 fl, .int .i64 tg], .agg #[.int .i64 p, .int .i64 f, .int .i64 s, .int .i64 o], .slice A9 ms.length c9, .int .i64 acc] w fun e w' => e = .returned (.tuple #[.bool (passesRes l fl tg p f s o ms acc).1, .int .i64 (passesRes l fl tg p f s o ms acc).2]) ∧ Below w.heap.size w w' := by
  have hu24 := Try.underlying24
  have hu27 := Try.underlying27
  have HB := Below.refl w.heap.size w
  go_enter Try.func45, Try.ntmps45
  go_wp2_with fail
  have e0 := alloc_old (o' := .cells #[.int .i64 p, .int .i64 f, .int .i64 s, .int .i64 o] 27) (World.alloc_heap_new w (.cells #[.slice A l.length c, .int .i64 fl, .int .i64 tg] 24))
  have e1 := World.alloc_heap_new (w.alloc (.cells #[.slice A l.length c, .int .i64 fl, .int .i64 tg] 24)) (.cells #[.int .i64 p, .int .i64 f, .int .i64 s, .int .i64 o] 27)
  rw [World.size_alloc] at e1
  have hbel := (HB.alloc (Nat.le_refl _) (.cells #[.slice A l.length c, .int .i64 fl, .int .i64 tg] 24)).alloc (by simp) (.cells #[.int .i64 p, .int .i64 f, .int .i64 s, .int .i64 o] 27)
  have hsz : w.heap.size + 1 < ((w.alloc (.cells #[.slice A l.length c, .int .i64 fl, .int .i64 tg] 24)).alloc (.cells #[.int .i64 p, .int .i64 f, .int .i64 s, .int .i64 o] 27)).heap.size := by simp
  generalize ((w.alloc (Obj.cells #[.slice A l.length c, .int .i64 fl, .int .i64 tg] 24)).alloc (Obj.cells #[.int .i64 p, .int .i64 f, .int .i64 s, .int .i64 o] 27)) = W2 at *
  refine (loaded94_any A c l fl tg p f s o _ (Kd.C_below hr hbel) hc).mono ?_
  rintro e w1 ⟨rfl, hb⟩
  have HE := hid (And.intro (heap_grow e0 hb) (And.intro (heap_grow e1 hb) (And.intro (hbel.trans (hb.mono hbel.size)) (Nat.lt_of_lt_of_le hsz hb.size))))
  clear e0 e1 hbel hsz hb HB
  by_cases h0 : ¬ loadedOf l fl tg p f s o = 0
  · have HV := hid (show passesRes l fl tg p f s o ms acc = (false, loadedOf l fl tg p f s o) by unfold passesRes passErr; rw [if_neg h0, if_neg h0])
    generalize loadedOf l fl tg p f s o = ld at *
    have h0b : (ld != 0) = true := by simpa using h0
    go_wp2
    refine bodyPost_ret (v := .tuple #[.bool false, .int .i64 ld]) (by simp [results, Try.results45, go_sem]) rfl ⟨by rw [HV.out], HE.out.2.2.1⟩
  have h0' := Decidable.not_not.1 h0
  have HZ := hid h0'
  rw [h0']
  clear h0 h0'
  have hbad : ¬ (ms.length = l.length ∧ 0 ≤ acc ∧ acc ≤ 2000 ∧ ∀ j (h : j < ms.length), 0 ≤ ms[j] ∧ ms[j] ≤ 4000) → passesRes l fl tg p f s o ms acc = (false, 1) := fun hn => by
    have he : passErr l fl tg p f s o ms acc = 1 := by
      unfold passErr
      rw [if_pos HZ.out, if_neg]
      intro hcnd
      simp only [Bool.and_eq_true, decide_eq_true_eq, betw] at hcnd
      refine hn ⟨hcnd.1, hcnd.2.2.1, hcnd.2.2.2, fun j h => ?_⟩
      have := List.all_eq_true.1 hcnd.2.1 _ (List.getElem_mem h)
      simpa using this
    unfold passesRes
    rw [he]; rfl
  have HBAD := hid hbad
  clear hbad
  have e0 := HE.out.1
  have b0 := blkCell e0 0
  simp at b0
  clear e0
  by_cases g1 : ¬ ms.length = l.length
  · have d1 : ((ms.length : Int) != (l.length : Int)) = true := by simp; omega
    have HV := hid (HBAD.out fun h => g1 h.1)
    clear g1
    go_wp2
    refine bodyPost_ret (v := .tuple #[.bool false, .int .i64 1]) (by simp [results, Try.results45, go_sem]) rfl ⟨by rw [HV.out], HE.out.2.2.1⟩
  have g1' := Decidable.not_not.1 g1
  have d1 : ((ms.length : Int) != (l.length : Int)) = false := by simp; omega
  by_cases g2 : acc < 0
  · have d2 : decide (acc < 0) = true := decide_eq_true g2
    have HV := hid (HBAD.out fun h => by omega)
    clear g1 g1'
    go_wp2
    refine bodyPost_ret (v := .tuple #[.bool false, .int .i64 1]) (by simp [results, Try.results45, go_sem]) rfl ⟨by rw [HV.out], HE.out.2.2.1⟩
  have d2 : decide (acc < 0) = false := decide_eq_false g2
  by_cases g3 : 2000 < acc
  · have d3 : decide (2000 < acc) = true := decide_eq_true g3
    have HV := hid (HBAD.out fun h => by omega)
    clear g1 g1'
    go_wp2
    refine bodyPost_ret (v := .tuple #[.bool false, .int .i64 1]) (by simp [results, Try.results45, go_sem]) rfl ⟨by rw [HV.out], HE.out.2.2.1⟩
  have d3 : decide (2000 < acc) = false := decide_eq_false g3
  have HG := hid (And.intro g1' (And.intro (show 0 ≤ acc by omega) (show acc ≤ 2000 by omega)))
  clear g1 g1'
  go_wp2
  clear b0 d1 d2 d3
  go_loopw [11] (fun v11 X => ∃ k : Nat, k ≤ ms.length ∧ v11 = .int .i64 k ∧ Hid (Below w1.heap.size w1 X ∧ ∀ j (h : j < ms.length), j < k → 0 ≤ ms[j] ∧ ms[j] ≤ 4000)) (fun v11 _ => ms.length - (intOf v11).toNat)
  case atStart => exact ⟨0, by omega, rfl, hid ⟨Below.refl _ _, fun j h h' => absurd h' (by omega)⟩⟩
  case round =>
  obtain ⟨k, hk, rfl, HX⟩ := hrel
  by_cases hlt : k < ms.length
  · have hd : decide ((k : Int) < (ms.length : Int)) = true := decide_eq_true (by omega)
    have hBw := HE.out.2.2.1.trans (HX.out.1.mono HE.out.2.2.1.size)
    obtain ⟨a2, rfl, d2⟩ := Kd.at_int (Kd.C_below hr9 hBw) k (by omega) (by omega)
    rw [rd_int hlt] at d2
    simp only [Int.toNat_natCast] at d2
    have HBW := hid hBw
    clear hBw
    by_cases g4 : ms[k] < 0
    · have s1 : decide (ms[k] < 0) = true := decide_eq_true g4
      have HV := hid (HBAD.out fun h => by have := h.2.2.2 k hlt; omega)
      go_wp2
      refine bodyPost_ret (v := .tuple #[.bool false, .int .i64 1]) (by simp [results, Try.results45, go_sem]) rfl ⟨by rw [HV.out], HBW.out⟩
    have s1 : decide (ms[k] < 0) = false := decide_eq_false g4
    by_cases g5 : 4000 < ms[k]
    · have s2 : decide (4000 < ms[k]) = true := decide_eq_true g5
      have HV := hid (HBAD.out fun h => by have := h.2.2.2 k hlt; omega)
      go_wp2
      refine bodyPost_ret (v := .tuple #[.bool false, .int .i64 1]) (by simp [results, Try.results45, go_sem]) rfl ⟨by rw [HV.out], HBW.out⟩
    have s2 : decide (4000 < ms[k]) = false := decide_eq_false g5
    have HX2 := hid (And.intro HX.out.1 (show ∀ j (h : j < ms.length), j < k + 1 → 0 ≤ ms[j] ∧ ms[j] ≤ 4000 from fun j h hj => by
      by_cases e : j = k
      · subst e; omega
      · exact HX.out.2 j h (by omega)))
    have rk : wrap64 ((k : Int) + 1) = ((k + 1 : Nat) : Int) := by rw [wrap64_id (by omega) (by omega)]; simp
    go_wp2
    try simp only [rk]
    clear rk
    go_roundw
    case rel => exact ⟨k + 1, by omega, rfl, HX2⟩
    case measure => simp [intOf]; omega
  · have hd : decide ((k : Int) < (ms.length : Int)) = false := decide_eq_false (by omega)
    obtain rfl : k = ms.length := by omega
    have HM := hid fun j (h : j < ms.length) => HX.out.2 j h h
    have hE : passErr l fl tg p f s o ms acc = 0 := by
      unfold passErr
      rw [if_pos HZ.out, if_pos]
      simp only [Bool.and_eq_true, decide_eq_true_eq, betw]
      refine ⟨HG.out.1, ?_, HG.out.2⟩
      rw [List.all_eq_true]
      intro x hx
      obtain ⟨j, hj, rfl⟩ := List.getElem_of_mem hx
      simpa using HM.out j hj
    have HV := hid (show passesRes l fl tg p f s o ms acc = (passOk (needOf l fl tg p f s o) ms acc, 0) by unfold passesRes; rw [if_pos hE])
    have hBw := HE.out.2.2.1.trans (HX.out.1.mono HE.out.2.2.1.size)
    have e0 := heap_grow HE.out.1 HX.out.1
    have e1 := heap_grow HE.out.2.1 HX.out.1
    have HBW := hid hBw
    have b0 := blkCell e0 0
    have b1 := blkCell e0 1
    have b2 := blkCell e0 2
    have z0 := blkCell e1 0
    have z1 := blkCell e1 1
    have z2 := blkCell e1 2
    have z3 := blkCell e1 3
    simp at b0 b1 b2 z0 z1 z2 z3
    clear e0 e1 hE hBw hk
    rename World => Wk
    go_wp2_with fail
    obtain ⟨zc, zl⟩ := loaded_zero HZ.out
    refine (refneeded_any A c l fl tg p f s o _ (Kd.C_below hr HBW.out) hc zc zl).mono ?_
    rintro e w4 ⟨v, rfl, hO, hb⟩
    obtain ⟨Ad, cd, rfl, hCn, hln⟩ := int_row hO
    have hnl : (needOf l fl tg p f s o).length = ms.length := by rw [need_len, HG.out.1]
    obtain ⟨nd, hnd⟩ : ∃ nd, needOf l fl tg p f s o = nd := ⟨_, rfl⟩
    rw [hnd] at hCn hnl
    rw [hnd]
    have HND := hid (And.intro hnd hnl)
    have HCN := hid hCn
    have HB4 := hid (HBW.out.trans (hb.mono HBW.out.size))
    clear hb hO hln hnd hCn hnl b0 b1 b2 z0 z1 z2 z3 zc zl
    go_wp2
    go_loopw [13] (fun v13 X => ∃ k : Nat, k ≤ nd.length ∧ v13 = .int .i64 k ∧ Hid (Below w4.heap.size w4 X ∧ ∀ (j : Nat) (h : j < nd.length) (h' : j < ms.length), j < k → passAt acc nd[j] ms[j] = true)) (fun v13 _ => nd.length - (intOf v13).toNat)
    case atStart => exact ⟨0, by omega, rfl, hid ⟨Below.refl _ _, fun _ _ _ h => absurd h (by omega)⟩⟩
    case round =>
    obtain ⟨k, hk, rfl, HY⟩ := hrel
    have hBy := HB4.out.trans (HY.out.1.mono HB4.out.size)
    by_cases hlt2 : k < nd.length
    · have hlt' : k < ms.length := by rw [← HND.out.2]; exact hlt2
      have hd2 : decide ((k : Int) < (nd.length : Int)) = true := decide_eq_true (by omega)
      obtain ⟨an, rfl, n0⟩ := Kd.at_int (Kd.C_below HCN.out HY.out.1) k (by omega) (by omega)
      obtain ⟨am, rfl, m0⟩ := Kd.at_int (Kd.C_below hr9 hBy) k (by omega) (by omega)
      rw [rd_int hlt2] at n0
      rw [rd_int hlt'] at m0
      simp only [Int.toNat_natCast] at n0 m0
      have hb1 := HM.out k hlt'
      have hb2 := HG.out.2
      have hwr : wrap64 (ms[k] - acc) = ms[k] - acc := wrap64_id (by omega) (by omega)
      have HBY := hid hBy
      clear hBy
      go_wp2_with fail
      have hpf : passAt acc nd[k] ms[k] = false → passOk nd ms acc = false := fun hx => by
        unfold passOk
        rw [Bool.eq_false_iff]
        intro hc
        have := List.all_eq_true.1 hc (nd[k], ms[k]) (by rw [List.mem_iff_getElem]; exact ⟨k, by rw [List.length_zip]; omega, by simp⟩)
        simp only at this
        rw [hx] at this; cases this
      have HPF := hid hpf
      have HWR := hid hwr
      clear hpf hwr
      by_cases g1 : nd[k] = 0
      · have s1 : (nd[k] == 0) = true := by simpa using g1
        have hpf : passAt acc nd[k] ms[k] = false := by unfold passAt; simp [g1]
        refine wp_flow [[], [], [0, 1], [2, 0, 1], [3, 2, 0, 1], [4, 3, 2, 0, 1], [5, 4, 3, 2, 0, 1], [5, 4, 3, 2, 0, 1], [6, 5, 4, 3, 2, 0, 1, 7], [8, 6, 5, 4, 3, 2, 0, 1, 7], [5, 4, 3, 2, 0, 1], [9, 8, 6, 5, 4, 3, 2, 0, 1, 7, 10], [5, 4, 3, 2, 0, 1], [5, 4, 3, 2, 0, 1], [12, 5, 4, 3, 2, 0, 1, 13], [14, 12, 5, 4, 3, 2, 0, 1, 13], [11, 9, 8, 6, 5, 4, 3, 2, 0, 1, 7, 10, 15, 14, 12, 13], [5, 4, 3, 2, 0, 1, 16, 11, 9, 8, 6, 7, 10, 15, 14, 12, 13], [17, 5, 4, 3, 2, 0, 1, 16, 11, 9, 8, 6, 7, 10, 15, 14, 12, 13], [18, 17, 5, 4, 3, 2, 0, 1, 16, 11, 9, 8, 6, 7, 10, 15, 14, 12, 13], [18, 17, 5, 4, 3, 2, 0, 1, 16, 11, 9, 8, 6, 7, 10, 15, 14, 12, 13], [19, 18, 17, 5, 4, 3, 2, 0, 1, 16, 11, 9, 8, 6, 7, 10, 15, 14, 12, 13, 20], [21, 19, 18, 17, 5, 4, 3, 2, 0, 1, 16, 11, 9, 8, 6, 7, 10, 15, 14, 12, 13, 20], [22, 21, 19, 18, 17, 5, 4, 3, 2, 0, 1, 16, 11, 9, 8, 6, 7, 10, 15, 14, 12, 13, 20], [18, 17, 5, 4, 3, 2, 0, 1, 16, 11, 9, 8, 6, 7, 10, 15, 14, 12, 13, 23, 22, 21, 19, 20]] 25
          (fun V => V.cell? (an.add k) = some (.int .i64 nd[k]) ∧ V.cell? (am.add k) = some (.int .i64 ms[k]) ∧ Below wr.heap.size wr V)
          { tmps := #[.agg #[.slice A l.length c, .int .i64 fl, .int .i64 tg], .agg #[.int .i64 p, .int .i64 f, .int .i64 s, .int .i64 o], .slice (some am) ms.length c9, .int .i64 acc, .pointer (some ⟨w.heap.size, 0, none⟩), .pointer (some ⟨w.heap.size + 1, 0, none⟩), undef, undef, u8, u9, .int .i64 0, .int .i64 ms.length, .slice (some an) nd.length cd, .int .i64 k, .agg #[.slice A l.length c, .int .i64 fl, .int .i64 tg], .agg #[.int .i64 p, .int .i64 f, .int .i64 s, .int .i64 o], .int .i64 0, .int .i64 0, .bool false, undef, .slice (some am) ms.length c9, .int .i64 ms.length, .pointer (some ⟨w.heap.size, 0, none⟩), .slice A l.length c, .int .i64 l.length, .bool false, .bool false, .int .i64 acc, .bool false, .bool false, .bool false, .int .i64 acc, .bool false, .bool false, .int .i64 ms.length, .slice (some am) ms.length c9, .int .i64 ms.length, .bool false, u38, u39, u40, u41, u42, u43, u44, u45, u46, u47, u48, u49, u50, u51, .agg #[.slice A l.length c, .int .i64 fl, .int .i64 tg], .agg #[.int .i64 p, .int .i64 f, .int .i64 s, .int .i64 o], .slice (some an) nd.length cd, .int .i64 k, .slice (some an) nd.length cd, .int .i64 nd.length, .bool true, u59, u60, .slice (some an) nd.length cd, .int .i64 k, .pointer (some (an.add k)), .int .i64 (nd[k]), .bool true, .bool true, undef, undef, undef, undef, undef, undef, undef, undef, undef, undef, undef, .bool true, .bool true, undef, undef, undef, undef, undef, .bool true], defers := [] }
          mixed (by kernel_rfl) rfl (Ahead.of3 61 86 rfl rfl (by kernel_rfl) rfl rfl) ?_ (AllFlow.ops rfl ?_) rfl ?_
        · exact ⟨n0, m0, (Below.refl _ _).drew⟩
        · refine ⟨?_, ?_, ?_, ?_, ?_, ?_, ?_, ?_, ?_, ?_, ?_, ?_, ?_, ?_, ?_, ?_, ?_, ?_, ?_, ?_, ?_, ?_, ?_, ?_, ?_, trivial⟩
          · exact .val 61 _ rfl rfl fun V ⟨x0, x1, hB_⟩ => by go_simp <;> exact IntWalk.i64_left _
          · exact .val 62 _ rfl rfl fun V ⟨x0, x1, hB_⟩ => by go_simp <;> exact IntWalk.i64_left _
          · exact .val 63 _ rfl rfl fun V ⟨x0, x1, hB_⟩ => by go_simp <;> exact IntWalk.i64_left _
          · exact .val 64 _ rfl rfl fun V ⟨x0, x1, hB_⟩ => by go_simp <;> exact IntWalk.i64_left _
          · exact .val 65 _ rfl rfl fun V ⟨x0, x1, hB_⟩ => by go_simp <;> exact IntWalk.i64_left _
          · exact .val 66 _ rfl rfl fun V ⟨x0, x1, hB_⟩ => by go_simp <;> exact IntWalk.i64_left _
          · exact .off 67 rfl rfl
          · exact .off 68 rfl rfl
          · exact .off 69 rfl rfl
          · exact .off 70 rfl rfl
          · exact .off 71 rfl rfl
          · exact .off 72 rfl rfl
          · exact .off 73 rfl rfl
          · exact .off 74 rfl rfl
          · exact .off 75 rfl rfl
          · exact .off 76 rfl rfl
          · exact .off 77 rfl rfl
          · exact .val 78 _ rfl rfl fun V ⟨x0, x1, hB_⟩ => by go_simp <;> exact IntWalk.i64_left _
          · exact .val 79 _ rfl rfl fun V ⟨x0, x1, hB_⟩ => by go_simp <;> exact IntWalk.i64_left _
          · exact .off 80 rfl rfl
          · exact .off 81 rfl rfl
          · exact .off 82 rfl rfl
          · exact .off 83 rfl rfl
          · exact .off 84 rfl rfl
          · exact .val 85 _ rfl rfl fun V ⟨x0, x1, hB_⟩ => by go_simp <;> exact IntWalk.i64_left _
        · rintro V7 ⟨x0, x1, hB_⟩
          have HB7 := hid (HBY.out.trans (hB_.mono HBY.out.size))
          have HY7 := hid (HY.out.1.trans (hB_.mono HY.out.1.size))
          clear x0 x1 hB_ n0 m0
          have HV3 := hid (show passesRes l fl tg p f s o ms acc = (false, 0) by rw [HV.out, HND.out.1, HPF.out hpf])
          go_wp2
          refine bodyPost_ret (v := .tuple #[.bool false, .int .i64 0]) (by simp [results, Try.results45, go_sem]) rfl ⟨by rw [HV3.out], HB7.out⟩
      have s1 : (nd[k] == 0) = false := by simpa using g1
      by_cases g2 : ms[k] - acc < nd[k]
      · have s2 : decide (wrap64 (ms[k] - acc) < nd[k]) = true := decide_eq_true (by rw [HWR.out]; exact g2)
        have hpf : passAt acc nd[k] ms[k] = false := by unfold passAt; simp [g2]
        refine wp_flow [[], [], [0, 1], [2, 0, 1], [3, 2, 0, 1], [4, 3, 2, 0, 1], [5, 4, 3, 2, 0, 1], [5, 4, 3, 2, 0, 1], [6, 5, 4, 3, 2, 0, 1, 7], [8, 6, 5, 4, 3, 2, 0, 1, 7], [5, 4, 3, 2, 0, 1], [9, 8, 6, 5, 4, 3, 2, 0, 1, 7, 10], [5, 4, 3, 2, 0, 1], [5, 4, 3, 2, 0, 1], [12, 5, 4, 3, 2, 0, 1, 13], [14, 12, 5, 4, 3, 2, 0, 1, 13], [11, 9, 8, 6, 5, 4, 3, 2, 0, 1, 7, 10, 15, 14, 12, 13], [5, 4, 3, 2, 0, 1, 16, 11, 9, 8, 6, 7, 10, 15, 14, 12, 13], [17, 5, 4, 3, 2, 0, 1, 16, 11, 9, 8, 6, 7, 10, 15, 14, 12, 13], [18, 17, 5, 4, 3, 2, 0, 1, 16, 11, 9, 8, 6, 7, 10, 15, 14, 12, 13], [18, 17, 5, 4, 3, 2, 0, 1, 16, 11, 9, 8, 6, 7, 10, 15, 14, 12, 13], [19, 18, 17, 5, 4, 3, 2, 0, 1, 16, 11, 9, 8, 6, 7, 10, 15, 14, 12, 13, 20], [21, 19, 18, 17, 5, 4, 3, 2, 0, 1, 16, 11, 9, 8, 6, 7, 10, 15, 14, 12, 13, 20], [22, 21, 19, 18, 17, 5, 4, 3, 2, 0, 1, 16, 11, 9, 8, 6, 7, 10, 15, 14, 12, 13, 20], [18, 17, 5, 4, 3, 2, 0, 1, 16, 11, 9, 8, 6, 7, 10, 15, 14, 12, 13, 23, 22, 21, 19, 20]] 25
          (fun V => V.cell? (an.add k) = some (.int .i64 nd[k]) ∧ V.cell? (am.add k) = some (.int .i64 ms[k]) ∧ Below wr.heap.size wr V)
          { tmps := #[.agg #[.slice A l.length c, .int .i64 fl, .int .i64 tg], .agg #[.int .i64 p, .int .i64 f, .int .i64 s, .int .i64 o], .slice (some am) ms.length c9, .int .i64 acc, .pointer (some ⟨w.heap.size, 0, none⟩), .pointer (some ⟨w.heap.size + 1, 0, none⟩), undef, undef, u8, u9, .int .i64 0, .int .i64 ms.length, .slice (some an) nd.length cd, .int .i64 k, .agg #[.slice A l.length c, .int .i64 fl, .int .i64 tg], .agg #[.int .i64 p, .int .i64 f, .int .i64 s, .int .i64 o], .int .i64 0, .int .i64 0, .bool false, undef, .slice (some am) ms.length c9, .int .i64 ms.length, .pointer (some ⟨w.heap.size, 0, none⟩), .slice A l.length c, .int .i64 l.length, .bool false, .bool false, .int .i64 acc, .bool false, .bool false, .bool false, .int .i64 acc, .bool false, .bool false, .int .i64 ms.length, .slice (some am) ms.length c9, .int .i64 ms.length, .bool false, u38, u39, u40, u41, u42, u43, u44, u45, u46, u47, u48, u49, u50, u51, .agg #[.slice A l.length c, .int .i64 fl, .int .i64 tg], .agg #[.int .i64 p, .int .i64 f, .int .i64 s, .int .i64 o], .slice (some an) nd.length cd, .int .i64 k, .slice (some an) nd.length cd, .int .i64 nd.length, .bool true, u59, u60, .slice (some an) nd.length cd, .int .i64 k, .pointer (some (an.add k)), .int .i64 (nd[k]), .bool false, .bool false, .slice (some am) ms.length c9, .int .i64 k, .pointer (some (am.add k)), .int .i64 (ms[k]), .int .i64 acc, .int .i64 (wrap64 ((ms[k]) - acc)), .slice (some an) nd.length cd, .int .i64 k, .pointer (some (an.add k)), .int .i64 (nd[k]), .bool true, .bool true, .bool true, undef, undef, undef, undef, undef, .bool true], defers := [] }
          mixed (by kernel_rfl) rfl (Ahead.of3 61 86 rfl rfl (by kernel_rfl) rfl rfl) ?_ (AllFlow.ops rfl ?_) rfl ?_
        · exact ⟨n0, m0, (Below.refl _ _).drew⟩
        · refine ⟨?_, ?_, ?_, ?_, ?_, ?_, ?_, ?_, ?_, ?_, ?_, ?_, ?_, ?_, ?_, ?_, ?_, ?_, ?_, ?_, ?_, ?_, ?_, ?_, ?_, trivial⟩
          · exact .val 61 _ rfl rfl fun V ⟨x0, x1, hB_⟩ => by go_simp <;> exact IntWalk.i64_left _
          · exact .val 62 _ rfl rfl fun V ⟨x0, x1, hB_⟩ => by go_simp <;> exact IntWalk.i64_left _
          · exact .val 63 _ rfl rfl fun V ⟨x0, x1, hB_⟩ => by go_simp <;> exact IntWalk.i64_left _
          · exact .val 64 _ rfl rfl fun V ⟨x0, x1, hB_⟩ => by go_simp <;> exact IntWalk.i64_left _
          · exact .val 65 _ rfl rfl fun V ⟨x0, x1, hB_⟩ => by go_simp <;> exact IntWalk.i64_left _
          · exact .val 66 _ rfl rfl fun V ⟨x0, x1, hB_⟩ => by go_simp <;> exact IntWalk.i64_left _
          · exact .val 67 _ rfl rfl fun V ⟨x0, x1, hB_⟩ => by go_simp <;> exact IntWalk.i64_left _
          · exact .val 68 _ rfl rfl fun V ⟨x0, x1, hB_⟩ => by go_simp <;> exact IntWalk.i64_left _
          · exact .val 69 _ rfl rfl fun V ⟨x0, x1, hB_⟩ => by go_simp <;> exact IntWalk.i64_left _
          · exact .val 70 _ rfl rfl fun V ⟨x0, x1, hB_⟩ => by go_simp <;> exact IntWalk.i64_left _
          · exact .val 71 _ rfl rfl fun V ⟨x0, x1, hB_⟩ => by go_simp <;> exact IntWalk.i64_left _
          · exact .val 72 _ rfl rfl fun V ⟨x0, x1, hB_⟩ => by go_simp <;> exact IntWalk.i64_left _
          · exact .val 73 _ rfl rfl fun V ⟨x0, x1, hB_⟩ => by go_simp <;> exact IntWalk.i64_left _
          · exact .val 74 _ rfl rfl fun V ⟨x0, x1, hB_⟩ => by go_simp <;> exact IntWalk.i64_left _
          · exact .val 75 _ rfl rfl fun V ⟨x0, x1, hB_⟩ => by go_simp <;> exact IntWalk.i64_left _
          · exact .val 76 _ rfl rfl fun V ⟨x0, x1, hB_⟩ => by go_simp <;> exact IntWalk.i64_left _
          · exact .val 77 _ rfl rfl fun V ⟨x0, x1, hB_⟩ => by go_simp <;> exact IntWalk.i64_left _
          · exact .val 78 _ rfl rfl fun V ⟨x0, x1, hB_⟩ => by go_simp <;> exact IntWalk.i64_left _
          · exact .val 79 _ rfl rfl fun V ⟨x0, x1, hB_⟩ => by go_simp <;> exact IntWalk.i64_left _
          · exact .off 80 rfl rfl
          · exact .off 81 rfl rfl
          · exact .off 82 rfl rfl
          · exact .off 83 rfl rfl
          · exact .off 84 rfl rfl
          · exact .val 85 _ rfl rfl fun V ⟨x0, x1, hB_⟩ => by go_simp <;> exact IntWalk.i64_left _
        · rintro V7 ⟨x0, x1, hB_⟩
          have HB7 := hid (HBY.out.trans (hB_.mono HBY.out.size))
          have HY7 := hid (HY.out.1.trans (hB_.mono HY.out.1.size))
          clear x0 x1 hB_ n0 m0
          have HV3 := hid (show passesRes l fl tg p f s o ms acc = (false, 0) by rw [HV.out, HND.out.1, HPF.out hpf])
          go_wp2
          refine bodyPost_ret (v := .tuple #[.bool false, .int .i64 0]) (by simp [results, Try.results45, go_sem]) rfl ⟨by rw [HV3.out], HB7.out⟩
      have s2 : decide (wrap64 (ms[k] - acc) < nd[k]) = false := decide_eq_false (by rw [HWR.out]; exact g2)
      by_cases g3 : 2000 < ms[k]
      · have s3 : decide (2000 < ms[k]) = true := decide_eq_true g3
        have hpf : passAt acc nd[k] ms[k] = false := by unfold passAt; simp [g3]
        refine wp_flow [[], [], [0, 1], [2, 0, 1], [3, 2, 0, 1], [4, 3, 2, 0, 1], [5, 4, 3, 2, 0, 1], [5, 4, 3, 2, 0, 1], [6, 5, 4, 3, 2, 0, 1, 7], [8, 6, 5, 4, 3, 2, 0, 1, 7], [5, 4, 3, 2, 0, 1], [9, 8, 6, 5, 4, 3, 2, 0, 1, 7, 10], [5, 4, 3, 2, 0, 1], [5, 4, 3, 2, 0, 1], [12, 5, 4, 3, 2, 0, 1, 13], [14, 12, 5, 4, 3, 2, 0, 1, 13], [11, 9, 8, 6, 5, 4, 3, 2, 0, 1, 7, 10, 15, 14, 12, 13], [5, 4, 3, 2, 0, 1, 16, 11, 9, 8, 6, 7, 10, 15, 14, 12, 13], [17, 5, 4, 3, 2, 0, 1, 16, 11, 9, 8, 6, 7, 10, 15, 14, 12, 13], [18, 17, 5, 4, 3, 2, 0, 1, 16, 11, 9, 8, 6, 7, 10, 15, 14, 12, 13], [18, 17, 5, 4, 3, 2, 0, 1, 16, 11, 9, 8, 6, 7, 10, 15, 14, 12, 13], [19, 18, 17, 5, 4, 3, 2, 0, 1, 16, 11, 9, 8, 6, 7, 10, 15, 14, 12, 13, 20], [21, 19, 18, 17, 5, 4, 3, 2, 0, 1, 16, 11, 9, 8, 6, 7, 10, 15, 14, 12, 13, 20], [22, 21, 19, 18, 17, 5, 4, 3, 2, 0, 1, 16, 11, 9, 8, 6, 7, 10, 15, 14, 12, 13, 20], [18, 17, 5, 4, 3, 2, 0, 1, 16, 11, 9, 8, 6, 7, 10, 15, 14, 12, 13, 23, 22, 21, 19, 20]] 25
          (fun V => V.cell? (an.add k) = some (.int .i64 nd[k]) ∧ V.cell? (am.add k) = some (.int .i64 ms[k]) ∧ Below wr.heap.size wr V)
          { tmps := #[.agg #[.slice A l.length c, .int .i64 fl, .int .i64 tg], .agg #[.int .i64 p, .int .i64 f, .int .i64 s, .int .i64 o], .slice (some am) ms.length c9, .int .i64 acc, .pointer (some ⟨w.heap.size, 0, none⟩), .pointer (some ⟨w.heap.size + 1, 0, none⟩), undef, undef, u8, u9, .int .i64 0, .int .i64 ms.length, .slice (some an) nd.length cd, .int .i64 k, .agg #[.slice A l.length c, .int .i64 fl, .int .i64 tg], .agg #[.int .i64 p, .int .i64 f, .int .i64 s, .int .i64 o], .int .i64 0, .int .i64 0, .bool false, undef, .slice (some am) ms.length c9, .int .i64 ms.length, .pointer (some ⟨w.heap.size, 0, none⟩), .slice A l.length c, .int .i64 l.length, .bool false, .bool false, .int .i64 acc, .bool false, .bool false, .bool false, .int .i64 acc, .bool false, .bool false, .int .i64 ms.length, .slice (some am) ms.length c9, .int .i64 ms.length, .bool false, u38, u39, u40, u41, u42, u43, u44, u45, u46, u47, u48, u49, u50, u51, .agg #[.slice A l.length c, .int .i64 fl, .int .i64 tg], .agg #[.int .i64 p, .int .i64 f, .int .i64 s, .int .i64 o], .slice (some an) nd.length cd, .int .i64 k, .slice (some an) nd.length cd, .int .i64 nd.length, .bool true, u59, u60, .slice (some an) nd.length cd, .int .i64 k, .pointer (some (an.add k)), .int .i64 (nd[k]), .bool false, .bool false, .slice (some am) ms.length c9, .int .i64 k, .pointer (some (am.add k)), .int .i64 (ms[k]), .int .i64 acc, .int .i64 (wrap64 ((ms[k]) - acc)), .slice (some an) nd.length cd, .int .i64 k, .pointer (some (an.add k)), .int .i64 (nd[k]), .bool false, .bool false, .bool false, .slice (some am) ms.length c9, .int .i64 k, .pointer (some (am.add k)), .int .i64 (ms[k]), .bool true, .bool true], defers := [] }
          mixed (by kernel_rfl) rfl (Ahead.of3 61 86 rfl rfl (by kernel_rfl) rfl rfl) ?_ (AllFlow.ops rfl ?_) rfl ?_
        · exact ⟨n0, m0, (Below.refl _ _).drew⟩
        · refine ⟨?_, ?_, ?_, ?_, ?_, ?_, ?_, ?_, ?_, ?_, ?_, ?_, ?_, ?_, ?_, ?_, ?_, ?_, ?_, ?_, ?_, ?_, ?_, ?_, ?_, trivial⟩
          · exact .val 61 _ rfl rfl fun V ⟨x0, x1, hB_⟩ => by go_simp <;> exact IntWalk.i64_left _
          · exact .val 62 _ rfl rfl fun V ⟨x0, x1, hB_⟩ => by go_simp <;> exact IntWalk.i64_left _
          · exact .val 63 _ rfl rfl fun V ⟨x0, x1, hB_⟩ => by go_simp <;> exact IntWalk.i64_left _
          · exact .val 64 _ rfl rfl fun V ⟨x0, x1, hB_⟩ => by go_simp <;> exact IntWalk.i64_left _
          · exact .val 65 _ rfl rfl fun V ⟨x0, x1, hB_⟩ => by go_simp <;> exact IntWalk.i64_left _
          · exact .val 66 _ rfl rfl fun V ⟨x0, x1, hB_⟩ => by go_simp <;> exact IntWalk.i64_left _
          · exact .val 67 _ rfl rfl fun V ⟨x0, x1, hB_⟩ => by go_simp <;> exact IntWalk.i64_left _
          · exact .val 68 _ rfl rfl fun V ⟨x0, x1, hB_⟩ => by go_simp <;> exact IntWalk.i64_left _
          · exact .val 69 _ rfl rfl fun V ⟨x0, x1, hB_⟩ => by go_simp <;> exact IntWalk.i64_left _
          · exact .val 70 _ rfl rfl fun V ⟨x0, x1, hB_⟩ => by go_simp <;> exact IntWalk.i64_left _
          · exact .val 71 _ rfl rfl fun V ⟨x0, x1, hB_⟩ => by go_simp <;> exact IntWalk.i64_left _
          · exact .val 72 _ rfl rfl fun V ⟨x0, x1, hB_⟩ => by go_simp <;> exact IntWalk.i64_left _
          · exact .val 73 _ rfl rfl fun V ⟨x0, x1, hB_⟩ => by go_simp <;> exact IntWalk.i64_left _
          · exact .val 74 _ rfl rfl fun V ⟨x0, x1, hB_⟩ => by go_simp <;> exact IntWalk.i64_left _
          · exact .val 75 _ rfl rfl fun V ⟨x0, x1, hB_⟩ => by go_simp <;> exact IntWalk.i64_left _
          · exact .val 76 _ rfl rfl fun V ⟨x0, x1, hB_⟩ => by go_simp <;> exact IntWalk.i64_left _
          · exact .val 77 _ rfl rfl fun V ⟨x0, x1, hB_⟩ => by go_simp <;> exact IntWalk.i64_left _
          · exact .val 78 _ rfl rfl fun V ⟨x0, x1, hB_⟩ => by go_simp <;> exact IntWalk.i64_left _
          · exact .val 79 _ rfl rfl fun V ⟨x0, x1, hB_⟩ => by go_simp <;> exact IntWalk.i64_left _
          · exact .val 80 _ rfl rfl fun V ⟨x0, x1, hB_⟩ => by go_simp <;> exact IntWalk.i64_left _
          · exact .val 81 _ rfl rfl fun V ⟨x0, x1, hB_⟩ => by go_simp <;> exact IntWalk.i64_left _
          · exact .val 82 _ rfl rfl fun V ⟨x0, x1, hB_⟩ => by go_simp <;> exact IntWalk.i64_left _
          · exact .val 83 _ rfl rfl fun V ⟨x0, x1, hB_⟩ => by go_simp <;> exact IntWalk.i64_left _
          · exact .val 84 _ rfl rfl fun V ⟨x0, x1, hB_⟩ => by go_simp <;> exact IntWalk.i64_left _
          · exact .val 85 _ rfl rfl fun V ⟨x0, x1, hB_⟩ => by go_simp <;> exact IntWalk.i64_left _
        · rintro V7 ⟨x0, x1, hB_⟩
          have HB7 := hid (HBY.out.trans (hB_.mono HBY.out.size))
          have HY7 := hid (HY.out.1.trans (hB_.mono HY.out.1.size))
          clear x0 x1 hB_ n0 m0
          have HV3 := hid (show passesRes l fl tg p f s o ms acc = (false, 0) by rw [HV.out, HND.out.1, HPF.out hpf])
          go_wp2
          refine bodyPost_ret (v := .tuple #[.bool false, .int .i64 0]) (by simp [results, Try.results45, go_sem]) rfl ⟨by rw [HV3.out], HB7.out⟩
      have s3 : decide (2000 < ms[k]) = false := decide_eq_false g3
      have hpt : passAt acc nd[k] ms[k] = true := by unfold passAt; simp [g1, g2, g3]
      have HPT := hid hpt
      clear hpt
      refine wp_flow [[], [], [0, 1], [2, 0, 1], [3, 2, 0, 1], [4, 3, 2, 0, 1], [5, 4, 3, 2, 0, 1], [5, 4, 3, 2, 0, 1], [6, 5, 4, 3, 2, 0, 1, 7], [8, 6, 5, 4, 3, 2, 0, 1, 7], [5, 4, 3, 2, 0, 1], [9, 8, 6, 5, 4, 3, 2, 0, 1, 7, 10], [5, 4, 3, 2, 0, 1], [5, 4, 3, 2, 0, 1], [12, 5, 4, 3, 2, 0, 1, 13], [14, 12, 5, 4, 3, 2, 0, 1, 13], [11, 9, 8, 6, 5, 4, 3, 2, 0, 1, 7, 10, 15, 14, 12, 13], [5, 4, 3, 2, 0, 1, 16, 11, 9, 8, 6, 7, 10, 15, 14, 12, 13], [17, 5, 4, 3, 2, 0, 1, 16, 11, 9, 8, 6, 7, 10, 15, 14, 12, 13], [18, 17, 5, 4, 3, 2, 0, 1, 16, 11, 9, 8, 6, 7, 10, 15, 14, 12, 13], [18, 17, 5, 4, 3, 2, 0, 1, 16, 11, 9, 8, 6, 7, 10, 15, 14, 12, 13], [19, 18, 17, 5, 4, 3, 2, 0, 1, 16, 11, 9, 8, 6, 7, 10, 15, 14, 12, 13, 20], [21, 19, 18, 17, 5, 4, 3, 2, 0, 1, 16, 11, 9, 8, 6, 7, 10, 15, 14, 12, 13, 20], [22, 21, 19, 18, 17, 5, 4, 3, 2, 0, 1, 16, 11, 9, 8, 6, 7, 10, 15, 14, 12, 13, 20], [18, 17, 5, 4, 3, 2, 0, 1, 16, 11, 9, 8, 6, 7, 10, 15, 14, 12, 13, 23, 22, 21, 19, 20]] 25
        (fun V => V.cell? (an.add k) = some (.int .i64 nd[k]) ∧ V.cell? (am.add k) = some (.int .i64 ms[k]) ∧ Below wr.heap.size wr V)
        { tmps := #[.agg #[.slice A l.length c, .int .i64 fl, .int .i64 tg], .agg #[.int .i64 p, .int .i64 f, .int .i64 s, .int .i64 o], .slice (some am) ms.length c9, .int .i64 acc, .pointer (some ⟨w.heap.size, 0, none⟩), .pointer (some ⟨w.heap.size + 1, 0, none⟩), undef, undef, u8, u9, .int .i64 0, .int .i64 ms.length, .slice (some an) nd.length cd, .int .i64 k, .agg #[.slice A l.length c, .int .i64 fl, .int .i64 tg], .agg #[.int .i64 p, .int .i64 f, .int .i64 s, .int .i64 o], .int .i64 0, .int .i64 0, .bool false, undef, .slice (some am) ms.length c9, .int .i64 ms.length, .pointer (some ⟨w.heap.size, 0, none⟩), .slice A l.length c, .int .i64 l.length, .bool false, .bool false, .int .i64 acc, .bool false, .bool false, .bool false, .int .i64 acc, .bool false, .bool false, .int .i64 ms.length, .slice (some am) ms.length c9, .int .i64 ms.length, .bool false, u38, u39, u40, u41, u42, u43, u44, u45, u46, u47, u48, u49, u50, u51, .agg #[.slice A l.length c, .int .i64 fl, .int .i64 tg], .agg #[.int .i64 p, .int .i64 f, .int .i64 s, .int .i64 o], .slice (some an) nd.length cd, .int .i64 k, .slice (some an) nd.length cd, .int .i64 nd.length, .bool true, u59, u60, .slice (some an) nd.length cd, .int .i64 k, .pointer (some (an.add k)), .int .i64 (nd[k]), .bool false, .bool false, .slice (some am) ms.length c9, .int .i64 k, .pointer (some (am.add k)), .int .i64 (ms[k]), .int .i64 acc, .int .i64 (wrap64 ((ms[k]) - acc)), .slice (some an) nd.length cd, .int .i64 k, .pointer (some (an.add k)), .int .i64 (nd[k]), .bool false, .bool false, .bool false, .slice (some am) ms.length c9, .int .i64 k, .pointer (some (am.add k)), .int .i64 (ms[k]), .bool false, .bool false], defers := [] }
        mixed (by kernel_rfl) rfl (Ahead.of3 61 86 rfl rfl (by kernel_rfl) rfl rfl) ?_ (AllFlow.ops rfl ?_) rfl ?_
      · exact ⟨n0, m0, (Below.refl _ _).drew⟩
      · refine ⟨?_, ?_, ?_, ?_, ?_, ?_, ?_, ?_, ?_, ?_, ?_, ?_, ?_, ?_, ?_, ?_, ?_, ?_, ?_, ?_, ?_, ?_, ?_, ?_, ?_, trivial⟩
        · exact .val 61 _ rfl rfl fun V ⟨x0, x1, hB_⟩ => by go_simp <;> exact IntWalk.i64_left _
        · exact .val 62 _ rfl rfl fun V ⟨x0, x1, hB_⟩ => by go_simp <;> exact IntWalk.i64_left _
        · exact .val 63 _ rfl rfl fun V ⟨x0, x1, hB_⟩ => by go_simp <;> exact IntWalk.i64_left _
        · exact .val 64 _ rfl rfl fun V ⟨x0, x1, hB_⟩ => by go_simp <;> exact IntWalk.i64_left _
        · exact .val 65 _ rfl rfl fun V ⟨x0, x1, hB_⟩ => by go_simp <;> exact IntWalk.i64_left _
        · exact .val 66 _ rfl rfl fun V ⟨x0, x1, hB_⟩ => by go_simp <;> exact IntWalk.i64_left _
        · exact .val 67 _ rfl rfl fun V ⟨x0, x1, hB_⟩ => by go_simp <;> exact IntWalk.i64_left _
        · exact .val 68 _ rfl rfl fun V ⟨x0, x1, hB_⟩ => by go_simp <;> exact IntWalk.i64_left _
        · exact .val 69 _ rfl rfl fun V ⟨x0, x1, hB_⟩ => by go_simp <;> exact IntWalk.i64_left _
        · exact .val 70 _ rfl rfl fun V ⟨x0, x1, hB_⟩ => by go_simp <;> exact IntWalk.i64_left _
        · exact .val 71 _ rfl rfl fun V ⟨x0, x1, hB_⟩ => by go_simp <;> exact IntWalk.i64_left _
        · exact .val 72 _ rfl rfl fun V ⟨x0, x1, hB_⟩ => by go_simp <;> exact IntWalk.i64_left _
        · exact .val 73 _ rfl rfl fun V ⟨x0, x1, hB_⟩ => by go_simp <;> exact IntWalk.i64_left _
        · exact .val 74 _ rfl rfl fun V ⟨x0, x1, hB_⟩ => by go_simp <;> exact IntWalk.i64_left _
        · exact .val 75 _ rfl rfl fun V ⟨x0, x1, hB_⟩ => by go_simp <;> exact IntWalk.i64_left _
        · exact .val 76 _ rfl rfl fun V ⟨x0, x1, hB_⟩ => by go_simp <;> exact IntWalk.i64_left _
        · exact .val 77 _ rfl rfl fun V ⟨x0, x1, hB_⟩ => by go_simp <;> exact IntWalk.i64_left _
        · exact .val 78 _ rfl rfl fun V ⟨x0, x1, hB_⟩ => by go_simp <;> exact IntWalk.i64_left _
        · exact .val 79 _ rfl rfl fun V ⟨x0, x1, hB_⟩ => by go_simp <;> exact IntWalk.i64_left _
        · exact .val 80 _ rfl rfl fun V ⟨x0, x1, hB_⟩ => by go_simp <;> exact IntWalk.i64_left _
        · exact .val 81 _ rfl rfl fun V ⟨x0, x1, hB_⟩ => by go_simp <;> exact IntWalk.i64_left _
        · exact .val 82 _ rfl rfl fun V ⟨x0, x1, hB_⟩ => by go_simp <;> exact IntWalk.i64_left _
        · exact .val 83 _ rfl rfl fun V ⟨x0, x1, hB_⟩ => by go_simp <;> exact IntWalk.i64_left _
        · exact .val 84 _ rfl rfl fun V ⟨x0, x1, hB_⟩ => by go_simp <;> exact IntWalk.i64_left _
        · exact .val 85 _ rfl rfl fun V ⟨x0, x1, hB_⟩ => by go_simp <;> exact IntWalk.i64_left _
      · rintro V7 ⟨x0, x1, hB_⟩
        have HB7 := hid (HBY.out.trans (hB_.mono HBY.out.size))
        have HY7 := hid (HY.out.1.trans (hB_.mono HY.out.1.size))
        clear x0 x1 hB_ n0 m0
        have HY2 := hid (And.intro HY7.out (show ∀ (j : Nat) (h : j < nd.length) (h' : j < ms.length), j < k + 1 → passAt acc nd[j] ms[j] = true from fun j h h' hj => by
          by_cases e : j = k
          · subst e; exact HPT.out
          · exact HY.out.2 j h h' (by omega)))
        have rk : wrap64 ((k : Int) + 1) = ((k + 1 : Nat) : Int) := by rw [wrap64_id (by omega) (by omega)]; simp
        go_wp2
        try simp only [rk]
        clear rk
        go_roundw
        case rel => exact ⟨k + 1, by omega, rfl, HY2⟩
        case measure => simp [intOf]; omega
    · have hd2 : decide ((k : Int) < (nd.length : Int)) = false := decide_eq_false (by omega)
      have HV2 := hid (show passesRes l fl tg p f s o ms acc = (true, 0) by
        rw [HV.out, HND.out.1]
        congr 1
        unfold passOk
        rw [List.all_eq_true]
        intro x hx
        obtain ⟨j, hj, rfl⟩ := List.getElem_of_mem hx
        rw [List.length_zip] at hj
        simpa using HY.out.2 j (by omega) (by omega) (by omega))
      have HBY := hid hBy
      clear hBy
      go_wp2
      refine bodyPost_ret (v := .tuple #[.bool true, .int .i64 0]) (by simp [results, Try.results45, go_sem]) rfl ⟨by rw [HV2.out], HBY.out⟩
/- lightest -/
theorem up58_any (a b : Int) (w : World) (h : ¬ b = 0) : Calls Try.prog 58 #[.int .i64 a, .int .i64 b] w fun e w' => e = .returned (.int .i64 (upW a b)) ∧ Below w.heap.size w w' := by
  have HB := Below.refl w.heap.size w
  go_enter Try.func58, Try.ntmps58
  go_wp2
  go_ret
  exact ⟨rfl, HB⟩
def upK (r : S82) (n : Int) : Int := upW (wrap64 (wrap64 (wrap64 (n * 355) * r.f0.f1) * r.f1.f1)) (wrap64 (wrap64 (200 * r.f2.f0) * 113))
theorem upK_ex {r : S82} {n : Int} (hr : ringOk r = true) (h0 : 1 ≤ n) (h1 : n ≤ 2000) (hs : ¬ r.f2.f0 = 0) : 1 ≤ upK r n ∧ ∀ x, 0 ≤ x → x ≤ 200000 → (n ≤ thickLo r x ↔ upK r n ≤ x) := by
  obtain ⟨r1, r2, r3, r4, r5, r6, r7, r8, r9, _⟩ := ring_ok hr
  have c1 := mul_pos_le (a := n * 355) (b := r.f0.f1) (A := 710000) (B := 1000) (by omega) (by omega) (by omega) (by omega)
  have c2 := mul_pos_le (a := n * 355 * r.f0.f1) (b := r.f1.f1) (A := 710000000) (B := 5000) c1.1 (by omega) (by omega) (by omega)
  have e : upK r n = upE (n * 355 * r.f0.f1 * r.f1.f1) (200 * r.f2.f0 * 113) := by
    unfold upK upW upE
    rw [wrap64_id (n := n * 355) (by omega) (by omega), wrap64_id (n := n * 355 * r.f0.f1) (by omega) (by omega), wrap64_id (n := n * 355 * r.f0.f1 * r.f1.f1) (by omega) (by omega), wrap64_id (n := 200 * r.f2.f0) (by omega) (by omega), wrap64_id (n := 200 * r.f2.f0 * 113) (by omega) (by omega)]
    have q0 := Int.ediv_nonneg (show 0 ≤ n * 355 * r.f0.f1 * r.f1.f1 + 200 * r.f2.f0 * 113 - 1 by omega) (show 0 ≤ 200 * r.f2.f0 * 113 by omega)
    have q1 := Int.ediv_le_self (200 * r.f2.f0 * 113) (show 0 ≤ n * 355 * r.f0.f1 * r.f1.f1 + 200 * r.f2.f0 * 113 - 1 by omega)
    rw [wrap64_id (n := n * 355 * r.f0.f1 * r.f1.f1 + 200 * r.f2.f0 * 113) (by omega) (by omega), wrap64_id (n := n * 355 * r.f0.f1 * r.f1.f1 + 200 * r.f2.f0 * 113 - 1) (by omega) (by omega), Int.tdiv_eq_ediv_of_nonneg (by omega), wrap64_id (by omega) (by omega)]
  have hb : 1 ≤ 200 * r.f2.f0 * 113 := by omega
  refine ⟨?_, fun x hx0 hx1 => ?_⟩
  · rw [e]
    apply Decidable.byContradiction
    intro hn
    have := (upE_le (a := n * 355 * r.f0.f1 * r.f1.f1) (q := 0) hb).1 (by omega)
    omega
  · rw [e, upE_le hb, (thick_ex hr hx0 hx1).1, Int.le_ediv_iff_mul_le (by have := (thick_ex hr hx0 hx1).2.2.2.1; omega)]
    have e1 : n * (355 * r.f0.f1 * r.f1.f1) = n * 355 * r.f0.f1 * r.f1.f1 := by ac_rfl
    have e2 : 200 * x * r.f2.f0 * 113 = x * (200 * r.f2.f0 * 113) := by ac_rfl
    rw [e1, e2]
def maxI (a b : Int) : Int := if a < b then b else a
def outOf (ps : List (S82 × Int)) : Int := ps.foldl (fun a y => maxI a (upK y.1 y.2)) 0
theorem outOf_snoc (ps : List (S82 × Int)) (y : S82 × Int) : outOf (ps ++ [y]) = maxI (outOf ps) (upK y.1 y.2) := by simp [outOf]
theorem fold_le : ∀ (ps : List (S82 × Int)) (a x : Int), ps.foldl (fun a y => maxI a (upK y.1 y.2)) a ≤ x ↔ a ≤ x ∧ ∀ y ∈ ps, upK y.1 y.2 ≤ x
  | [], a, x => by simp
  | y :: ps, a, x => by
    rw [List.foldl_cons, fold_le ps, List.forall_mem_cons]
    have : maxI a (upK y.1 y.2) ≤ x ↔ a ≤ x ∧ upK y.1 y.2 ≤ x := by unfold maxI; split <;> omega
    rw [this]
    exact ⟨fun h => ⟨h.1.1, h.1.2, h.2⟩, fun h => ⟨⟨h.1, h.2.1⟩, h.2.2⟩⟩
section
variable {l : List S82} {fl tg p f s o : Int}
theorem light_zero {k : Nat} (h : k < (needOf l fl tg p f s o).length) (hz : (needOf l fl tg p f s o)[k] = 0) : lightOf l fl tg p f s o = 0 := by
  unfold lightOf
  rw [if_pos]
  rw [List.any_eq_true]
  exact ⟨_, List.getElem_mem h, by simpa using hz⟩
theorem light_is (hnz : ∀ k (h : k < (needOf l fl tg p f s o).length), ¬ (needOf l fl tg p f s o)[k] = 0) {y : Int} (hy : 1 ≤ y) (hlit : ∀ x, 1 ≤ x → x ≤ 100000 → (lit l (needOf l fl tg p f s o) x = true ↔ y ≤ x)) : lightOf l fl tg p f s o = if 100000 < y then 0 else y := by
  unfold lightOf
  generalize needOf l fl tg p f s o = nd at *
  rw [if_neg (fun ha => by
    obtain ⟨x, hx, hx2⟩ := List.any_eq_true.1 ha
    obtain ⟨k, hk, rfl⟩ := List.getElem_of_mem hx
    exact hnz k hk (by simpa using hx2))]
  obtain ⟨b1, b2, b3, b4⟩ := firstOf_begins (lit l nd) (lo := 1) (hi := 100000) (by omega)
  generalize firstOf (lit l nd) 1 100000 = n at *
  by_cases hn : 100000 < n
  · rw [if_pos hn]
    have h3 := b3 (by omega)
    have : ¬ y ≤ n - 1 := fun h => by rw [(hlit (n - 1) (by omega) (by omega)).2 h] at h3; cases h3
    rw [if_pos (by omega)]
  · rw [if_neg hn]
    have h4 := (hlit n b1 (by omega)).1 (b4 (by omega))
    have : y = n := by
      rcases Int.lt_or_eq_of_le b1 with h | h
      · have h3 := b3 h
        have : ¬ y ≤ n - 1 := fun hh => by rw [(hlit (n - 1) (by omega) (by omega)).2 hh] at h3; cases h3
        omega
      · omega
    rw [this, if_neg hn]
theorem light_none (hc : checkOf l fl tg = 0) (hnz : ∀ k (h : k < (needOf l fl tg p f s o).length), ¬ (needOf l fl tg p f s o)[k] = 0) {k : Nat} (h : k < l.length) (hs : l[k].f2.f0 = 0) : lightOf l fl tg p f s o = 0 := by
  have := light_is (y := 100001) hnz (by omega) (fun x h1 h2 => by
    refine ⟨fun hl => ?_, fun hh => absurd hh (by omega)⟩
    rw [lit_get] at hl
    have hk2 : k < (needOf l fl tg p f s o).length := by rw [need_len]; exact h
    have g := hl k h hk2
    have n := need_nn hk2
    have n2 := hnz k hk2
    rw [(thick_ex (all_get (check_zero hc).2.2.1 h) (show 0 ≤ x by omega) (by omega)).1, hs] at g
    simp at g
    omega)
  rw [this, if_pos (by omega)]
theorem light_out (hc : checkOf l fl tg = 0) (hnz : ∀ k (h : k < (needOf l fl tg p f s o).length), ¬ (needOf l fl tg p f s o)[k] = 0) (hs : ∀ k (h : k < l.length), ¬ l[k].f2.f0 = 0) : lightOf l fl tg p f s o = if 100000 < outOf (l.zip (needOf l fl tg p f s o)) then 0 else outOf (l.zip (needOf l fl tg p f s o)) := by
  obtain ⟨c1, c2, c3, _⟩ := check_zero hc
  have hln := need_len l fl tg p f s o
  have key : ∀ k (h : k < l.length) (h' : k < (needOf l fl tg p f s o).length), 1 ≤ upK l[k] (needOf l fl tg p f s o)[k] ∧ ∀ x, 0 ≤ x → x ≤ 200000 → ((needOf l fl tg p f s o)[k] ≤ thickLo l[k] x ↔ upK l[k] (needOf l fl tg p f s o)[k] ≤ x) := fun k h h' => by
    have n := need_nn h'
    have n2 := hnz k h'
    exact upK_ex (all_get c3 h) (by omega) n.2 (hs k h)
  have hle : ∀ x, outOf (l.zip (needOf l fl tg p f s o)) ≤ x ↔ 0 ≤ x ∧ ∀ k (h : k < l.length) (h' : k < (needOf l fl tg p f s o).length), upK l[k] (needOf l fl tg p f s o)[k] ≤ x := fun x => by
    unfold outOf
    rw [fold_le]
    refine and_congr_right fun _ => ⟨fun h k h1 h2 => ?_, fun h y hy => ?_⟩
    · exact h (l[k], (needOf l fl tg p f s o)[k]) (by rw [List.mem_iff_getElem]; exact ⟨k, by rw [List.length_zip]; omega, by simp⟩)
    · obtain ⟨k, hk, rfl⟩ := List.getElem_of_mem hy
      rw [List.length_zip] at hk
      simpa using h k (by omega) (by omega)
  refine light_is hnz ?_ fun x h1 h2 => ?_
  · apply Decidable.byContradiction
    intro hn
    have h0 := ((hle 0).1 (by omega)).2 0 c2 (by omega)
    have := (key 0 c2 (by omega)).1
    omega
  · rw [lit_get, hle x]
    refine ⟨fun h => ⟨by omega, fun k h3 h4 => ((key k h3 h4).2 x (by omega) (by omega)).1 (h k h3 h4)⟩, fun h k h3 h4 => ((key k h3 h4).2 x (by omega) (by omega)).2 (h.2 k h3 h4)⟩
end
set_option maxRecDepth 100000 in
set_option maxHeartbeats 4000000 in
set_option pp.deepTerms true in
set_option pp.maxSteps 1000000 in
theorem lightest98_any (A : Option Addr) (c : Nat) (l : List S82) (fl tg p f s o : Int) (w : World) (hr : Kd.C k82 w A l.length l) (hc : l.length ≤ c) (hk : checkOf l fl tg = 0) (hl : loadOk p f s o = true) :
    Calls Try.prog 98 #[.agg #[.slice A l.length c, .int .i64 fl, .int .i64 tg], .agg #[.int .i64 p, .int .i64 f, .int .i64 s, .int .i64 o]] w (ReturnsInt (lightOf l fl tg p f s o) w) := by
  have hu24 := Try.underlying24
  have hu27 := Try.underlying27
  have hu82 := Try.underlying82
  have hu29 := Try.underlying29
  have HB := Below.refl w.heap.size w
  have HK := hid hk
  have HL := hid hl
  obtain ⟨k1, k2, hall, _⟩ := check_zero hk
  obtain ⟨ar, rfl⟩ : ∃ ar, A = some ar := by
    obtain ⟨ar, h, _⟩ := at_T82 hr 0 (by omega) (by omega)
    exact ⟨ar, h⟩
  clear hk hl
  go_enter Try.func98, Try.ntmps98
  go_wp2_with fail
  have e0 := alloc_old (o' := .cells #[.int .i64 p, .int .i64 f, .int .i64 s, .int .i64 o] 27) (World.alloc_heap_new w (.cells #[.slice (some ar) l.length c, .int .i64 fl, .int .i64 tg] 24))
  have hbel := (HB.alloc (Nat.le_refl _) (.cells #[.slice (some ar) l.length c, .int .i64 fl, .int .i64 tg] 24)).alloc (by simp) (.cells #[.int .i64 p, .int .i64 f, .int .i64 s, .int .i64 o] 27)
  generalize ((w.alloc (Obj.cells #[.slice (some ar) l.length c, .int .i64 fl, .int .i64 tg] 24)).alloc (Obj.cells #[.int .i64 p, .int .i64 f, .int .i64 s, .int .i64 o] 27)) = W2 at *
  refine (refneeded_any (some ar) c l fl tg p f s o _ (Kd.C_below hr hbel) hc HK.out HL.out).mono ?_
  rintro e w1 ⟨v, rfl, hO, hb⟩
  obtain ⟨Ad, cd, rfl, hCn, hln⟩ := int_row hO
  have hnl := need_len l fl tg p f s o
  obtain ⟨nd, hnd⟩ : ∃ nd, needOf l fl tg p f s o = nd := ⟨_, rfl⟩
  rw [hnd] at hCn hnl
  rw [hnd]
  have HND := hid (And.intro hnd hnl)
  have HCN := hid hCn
  have HE := hid (And.intro (heap_grow e0 hb) (hbel.trans (hb.mono hbel.size)))
  clear hb hO hln hnd hCn hnl e0 hbel HB
  go_wp2
  go_loopw [6] (fun v6 X => ∃ k : Nat, k ≤ nd.length ∧ v6 = .int .i64 k ∧ Hid (Below w1.heap.size w1 X ∧ ∀ j (h : j < nd.length), j < k → ¬ nd[j] = 0)) (fun v6 _ => nd.length - (intOf v6).toNat)
  case atStart => exact ⟨0, by omega, rfl, hid ⟨Below.refl _ _, fun j h h' => absurd h' (by omega)⟩⟩
  case round =>
  obtain ⟨k, hk, rfl, HX⟩ := hrel
  by_cases hlt : k < nd.length
  · have hd : decide ((k : Int) < (nd.length : Int)) = true := decide_eq_true (by omega)
    obtain ⟨an, rfl, n0⟩ := Kd.at_int (Kd.C_below HCN.out HX.out.1) k (by omega) (by omega)
    rw [rd_int hlt] at n0
    simp only [Int.toNat_natCast] at n0
    by_cases hz : nd[k] = 0
    · have s1 : (nd[k] == 0) = true := by simpa using hz
      have HV := hid (show lightOf l fl tg p f s o = 0 by
        have h := HND.out.1
        subst h
        exact light_zero hlt hz)
      have HBX := hid (HE.out.2.trans (HX.out.1.mono HE.out.2.size))
      clear hz
      go_wp2
      go_ret
      exact ⟨by rw [HV.out]; rfl, HBX.out⟩
    have s1 : (nd[k] == 0) = false := by simpa using hz
    have HX2 := hid (And.intro HX.out.1 (show ∀ j (h : j < nd.length), j < k + 1 → ¬ nd[j] = 0 from fun j h hj => by
      by_cases e : j = k
      · subst e; exact hz
      · exact HX.out.2 j h (by omega)))
    have rk : wrap64 ((k : Int) + 1) = ((k + 1 : Nat) : Int) := by rw [wrap64_id (by omega) (by have := HND.out.2; omega)]; simp
    go_wp2
    simp only [rk]
    clear rk
    go_roundw
    case rel => exact ⟨k + 1, by omega, rfl, HX2⟩
    case measure => simp [intOf]; omega
  · have hd : decide ((k : Int) < (nd.length : Int)) = false := decide_eq_false (by omega)
    obtain rfl : k = nd.length := by omega
    have HNZ := hid fun j (h : j < nd.length) => HX.out.2 j h h
    have HB1 := hid (HE.out.2.trans (HX.out.1.mono HE.out.2.size))
    have HE1 := hid (heap_grow HE.out.1 HX.out.1)
    have HC1 := hid (Kd.C_below HCN.out HX.out.1)
    clear HX
    rename World => W5
    clear hk
    go_wp2
    go_loopw [7, 8] (fun v7 v8 X => ∃ k : Nat, k ≤ nd.length ∧ v7 = .int .i64 (outOf ((l.zip nd).take k)) ∧ v8 = .int .i64 k ∧ Hid (Below W5.heap.size W5 X ∧ ∀ j (h : j < l.length), j < k → ¬ l[j].f2.f0 = 0)) (fun _ v8 _ => nd.length - (intOf v8).toNat)
    case atStart => exact ⟨0, by omega, by simp [outOf], rfl, hid ⟨Below.refl _ _, fun j h h' => absurd h' (by omega)⟩⟩
    case round =>
    obtain ⟨k, hk, rfl, rfl, HX⟩ := hrel
    obtain ⟨mo, hmo⟩ : ∃ m, outOf ((l.zip nd).take k) = m := ⟨_, rfl⟩
    rw [hmo]
    have HMO := hid hmo
    clear hmo
    have hBw := HB1.out.trans (HX.out.1.mono HB1.out.size)
    by_cases hlt : k < nd.length
    · have hd : decide ((k : Int) < (nd.length : Int)) = true := decide_eq_true (by omega)
      have hkl : k < l.length := by have := HND.out.2; omega
      obtain ⟨an, hna, n0⟩ := Kd.at_int (Kd.C_below HC1.out HX.out.1) k (by omega) (by omega)
      rw [rd_int hlt] at n0
      have hri := at_T82 (Kd.C_below hr hBw) k (by omega) (by omega)
      rw [rd82 hkl] at hri
      simp only [Int.toNat_natCast] at n0 hri
      obtain ⟨ar', har', r0, r1, r2, r3, r4, r5, r6, r7, r8, r9⟩ := hri
      cases har'
      subst hna
      have b0 := blkCell (heap_grow HE1.out HX.out.1) 0
      simp at b0
      have hr1 := all_get hall hkl
      rename World => Wk
      have hrg := World.alloc_heap_new Wk (.cells (ringC l[k]) 82)
      have HRG := hid hrg
      have HBW := hid hBw
      clear hrg hBw
      by_cases hs : l[k].f2.f0 = 0
      · have s1 : (l[k].f2.f0 == 0) = true := by simpa using hs
        have HV := hid (show lightOf l fl tg p f s o = 0 by
          have h := HND.out.1
          subst h
          exact light_none HK.out HNZ.out hkl hs)
        go_wp2
        go_ret
        exact ⟨by rw [HV.out]; rfl, HBW.out.alloc HBW.out.size _⟩
      have s1 : (l[k].f2.f0 == 0) = false := by simpa using hs
      go_wp2_with fail
      have hrg := HRG.out
      have hne : ¬ wrap64 (wrap64 (200 * l[k].f2.f0) * 113) = 0 := by
        obtain ⟨_, _, _, _, _, _, q7, q8, q9, _⟩ := ring_ok hr1
        rw [wrap64_id (n := 200 * l[k].f2.f0) (by omega) (by omega), wrap64_id (by omega) (by omega)]
        omega
      have n0 := cell_growp n0 ((Below.refl Wk.heap.size Wk).alloc (Nat.le_refl _) (.cells (ringC l[k]) 82))
      clear r0 r1 r2 r3 r4 r5 r6 r7 r8 r9 b0 s1
      refine wp_flow [[], [], [], [1, 2], [3, 1, 2], [4, 3, 1, 2], [], [6], [7, 6], [5, 4, 3, 1, 2, 8, 7, 6], [], [10], [11, 10], [9, 5, 4, 3, 1, 2, 8, 7, 6, 12, 11, 10], [], [14], [15, 14], [16, 15, 14], [17, 16, 15, 14], [13, 9, 5, 4, 3, 1, 2, 8, 7, 6, 12, 11, 10, 18, 17, 16, 15, 14], [0, 19, 13, 9, 5, 4, 3, 1, 2, 8, 7, 6, 12, 11, 10, 18, 17, 16, 15, 14], [20, 0, 19, 13, 9, 5, 4, 3, 1, 2, 8, 7, 6, 12, 11, 10, 18, 17, 16, 15, 14]] 21
        (fun V => V.cell? ⟨Wk.heap.size, 0, none⟩ = some (.int .i64 (l[k].f0.f0)) ∧ V.cell? ⟨Wk.heap.size, 1, none⟩ = some (.int .i64 (l[k].f0.f1)) ∧ V.cell? ⟨Wk.heap.size, 2, none⟩ = some (.int .i64 (l[k].f1.f0)) ∧ V.cell? ⟨Wk.heap.size, 3, none⟩ = some (.int .i64 (l[k].f1.f1)) ∧ V.cell? ⟨Wk.heap.size, 4, none⟩ = some (.int .i64 (l[k].f2.f0)) ∧ V.cell? ⟨Wk.heap.size, 5, none⟩ = some (.int .i64 (l[k].f2.f1)) ∧ V.cell? ⟨Wk.heap.size, 6, none⟩ = some (.int .i64 (l[k].f3.f0)) ∧ V.cell? ⟨Wk.heap.size, 7, none⟩ = some (.int .i64 (l[k].f3.f1)) ∧ V.cell? ⟨Wk.heap.size, 8, none⟩ = some (.int .i64 (l[k].f4.f0)) ∧ V.cell? ⟨Wk.heap.size, 9, none⟩ = some (.int .i64 (l[k].f4.f1)) ∧ V.cell? (an.add k) = some (.int .i64 nd[k]) ∧ Below (Wk.alloc (.cells (ringC l[k]) 82)).heap.size (Wk.alloc (.cells (ringC l[k]) 82)) V)
        { tmps := #[.agg #[.slice (some ar) l.length c, .int .i64 fl, .int .i64 tg], .agg #[.int .i64 p, .int .i64 f, .int .i64 s, .int .i64 o], .pointer (some ⟨w.heap.size, 0, none⟩), .pointer (some ⟨w.heap.size + 1, 0, none⟩), u4, .slice (some an) nd.length cd, .int .i64 nd.length, .int .i64 mo, .int .i64 k, .pointer (some ⟨Wk.heap.size, 0, none⟩), .agg #[.slice (some ar) l.length c, .int .i64 fl, .int .i64 tg], .agg #[.int .i64 p, .int .i64 f, .int .i64 s, .int .i64 o], .slice (some an) nd.length cd, .int .i64 nd.length, .slice (some an) nd.length cd, .int .i64 nd.length, .bool false, u17, u18, u19, u20, u21, u22, u23, .int .i64 k, .slice (some an) nd.length cd, .int .i64 nd.length, .bool true, u28, u29, .pointer (some ⟨w.heap.size, 0, none⟩), .slice (some ar) l.length c, .int .i64 k, .pointer (some (ar.add (k * 10))), .agg #[.int .i64 l[k].f0.f0, .int .i64 l[k].f0.f1, .int .i64 l[k].f1.f0, .int .i64 l[k].f1.f1, .int .i64 l[k].f2.f0, .int .i64 l[k].f2.f1, .int .i64 l[k].f3.f0, .int .i64 l[k].f3.f1, .int .i64 l[k].f4.f0, .int .i64 l[k].f4.f1], .pointer (some ⟨Wk.heap.size, 4, none⟩), .pointer (some ⟨Wk.heap.size, 4, none⟩), .int .i64 l[k].f2.f0, .bool false, .int .i64 mo, .slice (some an) nd.length cd, .int .i64 k, .pointer (some (an.add k)), .int .i64 (nd[k]), .int .i64 (wrap64 ((nd[k]) * 355)), .pointer (some ⟨Wk.heap.size, 0, none⟩), .pointer (some ⟨Wk.heap.size, 1, none⟩), .int .i64 (l[k].f0.f1), .int .i64 (wrap64 ((wrap64 ((nd[k]) * 355)) * (l[k].f0.f1))), .pointer (some ⟨Wk.heap.size, 2, none⟩), .pointer (some ⟨Wk.heap.size, 3, none⟩), .int .i64 (l[k].f1.f1), .int .i64 (wrap64 ((wrap64 ((wrap64 ((nd[k]) * 355)) * (l[k].f0.f1))) * (l[k].f1.f1))), .pointer (some ⟨Wk.heap.size, 4, none⟩), .pointer (some ⟨Wk.heap.size, 4, none⟩), .int .i64 (l[k].f2.f0), .int .i64 (wrap64 (200 * (l[k].f2.f0))), .int .i64 (wrap64 ((wrap64 (200 * (l[k].f2.f0))) * 113)), .int .i64 (upW (wrap64 (wrap64 (wrap64 (nd[k] * 355) * l[k].f0.f1) * l[k].f1.f1)) (wrap64 (wrap64 (200 * l[k].f2.f0) * 113))), .int .i64 (if mo < upW (wrap64 (wrap64 (wrap64 (nd[k] * 355) * l[k].f0.f1) * l[k].f1.f1)) (wrap64 (wrap64 (200 * l[k].f2.f0) * 113)) then upW (wrap64 (wrap64 (wrap64 (nd[k] * 355) * l[k].f0.f1) * l[k].f1.f1)) (wrap64 (wrap64 (200 * l[k].f2.f0) * 113)) else mo), undef, undef, undef], defers := [] }
        mixed (by kernel_rfl) rfl (Ahead.of3 39 60 rfl rfl (by kernel_rfl) rfl rfl) ?_ (AllFlow.ops rfl ?_) rfl ?_
      · exact ⟨blkCell hrg 0, blkCell hrg 1, blkCell hrg 2, blkCell hrg 3, blkCell hrg 4, blkCell hrg 5, blkCell hrg 6, blkCell hrg 7, blkCell hrg 8, blkCell hrg 9, n0, (Below.refl _ _).drew⟩
      · refine ⟨?_, ?_, ?_, ?_, ?_, ?_, ?_, ?_, ?_, ?_, ?_, ?_, ?_, ?_, ?_, ?_, ?_, ?_, ?_, ?_, ?_, trivial⟩
        · exact .val 39 _ rfl rfl fun V ⟨y0, y1, y2, y3, y4, y5, y6, y7, y8, y9, x0, hB_⟩ => by go_simp <;> exact IntWalk.i64_left _
        · exact .val 40 _ rfl rfl fun V ⟨y0, y1, y2, y3, y4, y5, y6, y7, y8, y9, x0, hB_⟩ => by go_simp <;> exact IntWalk.i64_left _
        · exact .val 41 _ rfl rfl fun V ⟨y0, y1, y2, y3, y4, y5, y6, y7, y8, y9, x0, hB_⟩ => by go_simp <;> exact IntWalk.i64_left _
        · exact .val 42 _ rfl rfl fun V ⟨y0, y1, y2, y3, y4, y5, y6, y7, y8, y9, x0, hB_⟩ => by go_simp <;> exact IntWalk.i64_left _
        · exact .val 43 _ rfl rfl fun V ⟨y0, y1, y2, y3, y4, y5, y6, y7, y8, y9, x0, hB_⟩ => by go_simp <;> exact IntWalk.i64_left _
        · exact .val 44 _ rfl rfl fun V ⟨y0, y1, y2, y3, y4, y5, y6, y7, y8, y9, x0, hB_⟩ => by go_simp <;> exact IntWalk.i64_left _
        · exact .val 45 _ rfl rfl fun V ⟨y0, y1, y2, y3, y4, y5, y6, y7, y8, y9, x0, hB_⟩ => by go_simp <;> exact IntWalk.i64_left _
        · exact .val 46 _ rfl rfl fun V ⟨y0, y1, y2, y3, y4, y5, y6, y7, y8, y9, x0, hB_⟩ => by go_simp <;> exact IntWalk.i64_left _
        · exact .val 47 _ rfl rfl fun V ⟨y0, y1, y2, y3, y4, y5, y6, y7, y8, y9, x0, hB_⟩ => by go_simp <;> exact IntWalk.i64_left _
        · exact .val 48 _ rfl rfl fun V ⟨y0, y1, y2, y3, y4, y5, y6, y7, y8, y9, x0, hB_⟩ => by go_simp <;> exact IntWalk.i64_left _
        · exact .val 49 _ rfl rfl fun V ⟨y0, y1, y2, y3, y4, y5, y6, y7, y8, y9, x0, hB_⟩ => by go_simp <;> exact IntWalk.i64_left _
        · exact .val 50 _ rfl rfl fun V ⟨y0, y1, y2, y3, y4, y5, y6, y7, y8, y9, x0, hB_⟩ => by go_simp <;> exact IntWalk.i64_left _
        · exact .val 51 _ rfl rfl fun V ⟨y0, y1, y2, y3, y4, y5, y6, y7, y8, y9, x0, hB_⟩ => by go_simp <;> exact IntWalk.i64_left _
        · exact .val 52 _ rfl rfl fun V ⟨y0, y1, y2, y3, y4, y5, y6, y7, y8, y9, x0, hB_⟩ => by go_simp <;> exact IntWalk.i64_left _
        · exact .val 53 _ rfl rfl fun V ⟨y0, y1, y2, y3, y4, y5, y6, y7, y8, y9, x0, hB_⟩ => by go_simp <;> exact IntWalk.i64_left _
        · exact .val 54 _ rfl rfl fun V ⟨y0, y1, y2, y3, y4, y5, y6, y7, y8, y9, x0, hB_⟩ => by go_simp <;> exact IntWalk.i64_left _
        · exact .val 55 _ rfl rfl fun V ⟨y0, y1, y2, y3, y4, y5, y6, y7, y8, y9, x0, hB_⟩ => by go_simp <;> exact IntWalk.i64_left _
        · exact .val 56 _ rfl rfl fun V ⟨y0, y1, y2, y3, y4, y5, y6, y7, y8, y9, x0, hB_⟩ => by go_simp <;> exact IntWalk.i64_left _
        · exact .val 57 _ rfl rfl fun V ⟨y0, y1, y2, y3, y4, y5, y6, y7, y8, y9, x0, hB_⟩ => by go_simp <;> exact IntWalk.i64_left _
        · refine .call 58 (.int .i64 (upW (wrap64 (wrap64 (wrap64 (nd[k] * 355) * l[k].f0.f1) * l[k].f1.f1)) (wrap64 (wrap64 (200 * l[k].f2.f0) * 113)))) 58 #[.int .i64 (wrap64 ((wrap64 ((wrap64 ((nd[k]) * 355)) * (l[k].f0.f1))) * (l[k].f1.f1))), .int .i64 (wrap64 ((wrap64 (200 * (l[k].f2.f0))) * 113))] rfl rfl (fun V ⟨y0, y1, y2, y3, y4, y5, y6, y7, y8, y9, x0, hB_⟩ => by go_simp) fun V ⟨y0, y1, y2, y3, y4, y5, y6, y7, y8, y9, x0, hB_⟩ => ?_
          refine (up58_any _ _ _ hne).mono ?_
          rintro e w' ⟨rfl, hb⟩
          exact ⟨rfl, cell_grow y0 hb, cell_grow y1 hb, cell_grow y2 hb, cell_grow y3 hb, cell_grow y4 hb, cell_grow y5 hb, cell_grow y6 hb, cell_grow y7 hb, cell_grow y8 hb, cell_grow y9 hb, cell_growp x0 hb, hB_.trans (hb.mono hB_.size)⟩
        · exact .val 59 _ rfl rfl fun V ⟨y0, y1, y2, y3, y4, y5, y6, y7, y8, y9, x0, hB_⟩ => by go_simp <;> exact IntWalk.i64_left _
      · rintro V7 ⟨y0, y1, y2, y3, y4, y5, y6, y7, y8, y9, x0, hB_⟩
        have HX2 := hid (And.intro (HX.out.1.trans (((Below.refl _ _).alloc (Nat.le_refl _) _ |>.trans (hB_.mono (by simp))).mono HX.out.1.size)) (show ∀ j (h : j < l.length), j < k + 1 → ¬ l[j].f2.f0 = 0 from fun j h hj => by
          by_cases e : j = k
          · subst e; exact hs
          · exact HX.out.2 j h (by omega)))
        have hsn : outOf ((l.zip nd).take (k + 1)) = maxI mo (upK l[k] nd[k]) := by
          rw [List.take_succ_eq_append_getElem (by rw [List.length_zip]; omega), outOf_snoc, HMO.out]
          simp
        have HSN := hid hsn
        have rk : wrap64 ((k : Int) + 1) = ((k + 1 : Nat) : Int) := by rw [wrap64_id (by omega) (by omega)]; simp
        clear y0 y1 y2 y3 y4 y5 y6 y7 y8 y9 x0 hB_ hsn n0 hrg hne
        go_wp2
        all_goals
          try simp only [rk]
          go_roundw
          case rel => exact ⟨k + 1, by omega, by rw [HSN.out]; rfl, rfl, HX2⟩
          case measure => simp [intOf]; omega
    · have hd : decide ((k : Int) < (nd.length : Int)) = false := decide_eq_false (by omega)
      have hkn : k = nd.length := by omega
      have hv : lightOf l fl tg p f s o = if 100000 < mo then 0 else mo := by
        have h := HND.out.1
        have hm := HMO.out
        rw [List.take_of_length_le (by rw [List.length_zip]; omega)] at hm
        subst h
        rw [← hm]
        exact light_out HK.out HNZ.out fun j hj => HX.out.2 j hj (by have := HND.out.2; omega)
      have HV := hid hv
      have HBW := hid hBw
      clear hv hBw
      by_cases hgt : 100000 < mo
      · have d1 : decide (100000 < mo) = true := decide_eq_true hgt
        have HV2 := hid (show lightOf l fl tg p f s o = 0 by rw [HV.out, if_pos hgt])
        clear hgt
        go_wp2
        go_ret
        exact ⟨by rw [HV2.out]; rfl, HBW.out⟩
      · have d1 : decide (100000 < mo) = false := decide_eq_false hgt
        have HV2 := hid (show lightOf l fl tg p f s o = mo by rw [HV.out, if_neg hgt])
        clear hgt
        go_wp2
        go_ret
        exact ⟨by rw [HV2.out]; rfl, HBW.out⟩
set_option maxRecDepth 100000 in
theorem Lightest47_any (A : Option Addr) (c : Nat) (l : List S82) (fl tg p f s o : Int) (w : World) (hr : Kd.C k82 w A l.length l) (hc : l.length ≤ c) :
    Calls Try.prog 47 #[.agg #[.slice A l.length c, .int .i64 fl, .int .i64 tg], .agg #[.int .i64 p, .int .i64 f, .int .i64 s, .int .i64 o]] w fun e w' => e = .returned (.tuple #[.int .i64 (lightestRes l fl tg p f s o).1, .int .i64 (lightestRes l fl tg p f s o).2]) ∧ Below w.heap.size w w' := by
  have hu24 := Try.underlying24
  have hu27 := Try.underlying27
  have HB := Below.refl w.heap.size w
  go_enter Try.func47, Try.ntmps47
  go_wp2_with fail
  have e0 := alloc_old (o' := .cells #[.int .i64 p, .int .i64 f, .int .i64 s, .int .i64 o] 27) (World.alloc_heap_new w (.cells #[.slice A l.length c, .int .i64 fl, .int .i64 tg] 24))
  have e1 := World.alloc_heap_new (w.alloc (.cells #[.slice A l.length c, .int .i64 fl, .int .i64 tg] 24)) (.cells #[.int .i64 p, .int .i64 f, .int .i64 s, .int .i64 o] 27)
  rw [World.size_alloc] at e1
  have hbel := (HB.alloc (Nat.le_refl _) (.cells #[.slice A l.length c, .int .i64 fl, .int .i64 tg] 24)).alloc (by simp) (.cells #[.int .i64 p, .int .i64 f, .int .i64 s, .int .i64 o] 27)
  have hsz : w.heap.size + 1 < ((w.alloc (.cells #[.slice A l.length c, .int .i64 fl, .int .i64 tg] 24)).alloc (.cells #[.int .i64 p, .int .i64 f, .int .i64 s, .int .i64 o] 27)).heap.size := by simp
  generalize ((w.alloc (Obj.cells #[.slice A l.length c, .int .i64 fl, .int .i64 tg] 24)).alloc (Obj.cells #[.int .i64 p, .int .i64 f, .int .i64 s, .int .i64 o] 27)) = W2 at *
  refine (loaded94_any A c l fl tg p f s o _ (Kd.C_below hr hbel) hc).mono ?_
  rintro e w1 ⟨rfl, hb⟩
  have HE := hid (And.intro (heap_grow e0 hb) (And.intro (heap_grow e1 hb) (And.intro (hbel.trans (hb.mono hbel.size)) (Nat.lt_of_lt_of_le hsz hb.size))))
  clear e0 e1 hbel hsz hb HB
  by_cases h0 : loadedOf l fl tg p f s o = 0
  · have HV := hid (show lightestRes l fl tg p f s o = (lightOf l fl tg p f s o, 0) by unfold lightestRes; rw [if_pos h0])
    have HZ := hid (loaded_zero h0)
    rw [h0]
    clear h0
    have e0 := HE.out.1
    have e1 := HE.out.2.1
    have b0 := blkCell e0 0
    have b1 := blkCell e0 1
    have b2 := blkCell e0 2
    have z0 := blkCell e1 0
    have z1 := blkCell e1 1
    have z2 := blkCell e1 2
    have z3 := blkCell e1 3
    simp at b0 b1 b2 z0 z1 z2 z3
    clear e0 e1
    go_wp2_with fail
    refine (lightest98_any A c l fl tg p f s o _ (Kd.C_below hr HE.out.2.2.1) hc HZ.out.1 HZ.out.2).mono ?_
    rintro e w2 ⟨rfl, hb⟩
    have HB2 := hid (HE.out.2.2.1.trans (hb.mono HE.out.2.2.1.size))
    clear hb b0 b1 b2 z0 z1 z2 z3
    go_wp2
    refine bodyPost_ret (v := .tuple #[.int .i64 (lightOf l fl tg p f s o), .int .i64 0]) (by simp [results, Try.results47, go_sem]) rfl ⟨by rw [HV.out], HB2.out⟩
  · have HV := hid (show lightestRes l fl tg p f s o = (0, loadedOf l fl tg p f s o) by unfold lightestRes; rw [if_neg h0])
    generalize loadedOf l fl tg p f s o = ld at *
    have h0b : (ld != 0) = true := by simpa using h0
    go_wp2
    refine bodyPost_ret (v := .tuple #[.int .i64 0, .int .i64 ld]) (by simp [results, Try.results47, go_sem]) rfl ⟨by rw [HV.out], HE.out.2.2.1⟩
theorem sameI_l0 (a : List Int) (hl : a.length ≤ 100000) : ∀ (d i k : Nat), i ≤ a.length → a.length - i = d → d < k → culletlaw01_SameInts.l0 k a a i = some true := by
  intro d
  induction d with
  | zero =>
    intro i k hi hd hk
    obtain ⟨m, rfl⟩ : ∃ m, k = m + 1 := ⟨k - 1, by omega⟩
    rw [culletlaw01_SameInts.l0, if_neg (by omega)]
  | succ d ih =>
    intro i k hi hd hk
    obtain ⟨m, rfl⟩ : ∃ m, k = m + 1 := ⟨k - 1, by omega⟩
    rw [culletlaw01_SameInts.l0, if_pos (by omega), if_pos (by omega), if_pos (by omega), if_pos rfl, wrap64_id (n := (i : Int) + 1) (by omega) (by omega)]
    exact ih (i + 1) m (by omega) (by omega) (by omega)
theorem sameI_f (a : List Int) (hl : a.length ≤ 100000) : culletlaw01_SameInts.f (a.length + 1) a a = some true := by
  unfold culletlaw01_SameInts.f
  rw [if_pos rfl]
  exact sameI_l0 a hl a.length 0 (a.length + 1) (by omega) (by omega) (by omega)
end Go.Proofs.Ythoofldinnfpiaa
