-- B6 B7 C1 (wip/pack9.py)
import Derived.Test.YtbmkbokkmmdjdaaV16
section
namespace Go.Proofs.Ytbmkbokkmmdjdaa
open Go.RowKit Go.Proofs.YtbmkbokkmmdjdaaW.PrintWords Go.Proofs.YtbmkbokkmmdjdaaW.PrintLast Go.Proofs.YtbmkbokkmmdjdaaW.PrintMore
open Q Go.Shelf
attribute [local go_sem] Oper.semAt_some wide_depth wide_fn
set_option linter.unusedVariables false
set_option linter.unusedSimpArgs false

def revK (l : List S23) (k : Nat) : List S23 := (List.range l.length).map fun j => if j < k ∨ l.length - k ≤ j then l.getD (l.length - 1 - j) z23 else l.getD j z23
theorem revK_len (l : List S23) (k : Nat) : (revK l k).length = l.length := by simp [revK]
theorem revK_at (l : List S23) (k : Nat) {j : Nat} (h : j < l.length) : (revK l k)[j]? = some (if j < k ∨ l.length - k ≤ j then l.getD (l.length - 1 - j) z23 else l.getD j z23) := by
  simp [revK, h]
theorem revK_zero (l : List S23) : revK l 0 = l := by
  apply List.ext_getElem?
  intro j
  by_cases h : j < l.length
  · rw [revK_at l 0 h, if_neg (by omega)]
    simp [List.getD, h]
  · rw [List.getElem?_eq_none (by rw [revK_len]; omega), List.getElem?_eq_none (by omega)]
theorem revK_succ {l : List S23} {k : Nat} (h : k < l.length - 1 - k) : revK l (k + 1) = ((revK l k).set k (l.getD (l.length - 1 - k) z23)).set (l.length - 1 - k) (l.getD k z23) := by
  apply List.ext_getElem?
  intro j
  by_cases hj : j < l.length
  · rw [revK_at l (k + 1) hj, List.getElem?_set, List.getElem?_set, List.length_set, revK_len, revK_at l k hj]
    by_cases e1 : l.length - 1 - k = j
    · rw [if_pos e1, if_pos (by omega), if_pos (by omega), ← e1, show l.length - 1 - (l.length - 1 - k) = k by omega]
    · rw [if_neg e1]
      by_cases e2 : k = j
      · rw [if_pos e2, if_pos (by omega), if_pos (by omega), e2]
      · rw [if_neg e2]
        by_cases e3 : j < k ∨ l.length - k ≤ j
        · rw [if_pos e3, if_pos (by omega)]
        · rw [if_neg e3, if_neg (by omega)]
  · rw [List.getElem?_eq_none (by rw [revK_len]; omega), List.getElem?_eq_none (by rw [List.length_set, List.length_set, revK_len]; omega)]
theorem revK_end {l : List S23} {k : Nat} (h : l.length - 1 - k ≤ k) : revK l k = l.reverse := by
  apply List.ext_getElem?
  intro j
  by_cases hj : j < l.length
  · rw [revK_at l k hj, List.getElem?_reverse hj]
    have e : ∀ i, i < l.length → l[i]? = some (l.getD i z23) := fun i hi => by simp [List.getD, hi]
    rw [e _ (by omega)]
    by_cases e3 : j < k ∨ l.length - k ≤ j
    · rw [if_pos e3]
    · rw [if_neg e3, show l.length - 1 - j = j by omega]
  · rw [List.getElem?_eq_none (by rw [revK_len]; omega), List.getElem?_eq_none (by rw [List.length_reverse]; omega)]
theorem revK_lo {l : List S23} {k : Nat} (h : k < l.length - 1 - k) : (revK l k).getD k z23 = l.getD k z23 := by
  rw [List.getD, revK_at l k (by omega), if_neg (by omega)]; rfl
theorem revK_hi {l : List S23} {k : Nat} (h : k < l.length - 1 - k) : (revK l k).getD (l.length - 1 - k) z23 = l.getD (l.length - 1 - k) z23 := by
  rw [List.getD, revK_at l k (by omega), if_neg (by omega)]; rfl
theorem row_cells2 {W : World} {base g cap n : Nat} {l : List S23} (h : W.ownsRow base 23 2 (.slice (some ⟨g, 0, none⟩) n cap) n (sF l)) (hn : l.length = n) {i : Nat} (hi : i < n) : W.cell? ⟨g, i * 2, none⟩ = some (.int .i64 (l.getD i z23).f0) ∧ W.cell? ⟨g, i * 2 + 1, none⟩ = some (.int .i64 (l.getD i z23).f1) := by
  subst hn
  refine ⟨?_, ?_⟩
  · have e := h.cellAt (i * 2) (by omega)
    have := sF_at (j := 0) hi (by omega)
    rw [Nat.add_zero] at this
    rw [e, this]; rfl
  · have e := h.cellAt (i * 2 + 1) (by omega)
    rw [e, sF_at hi (by omega)]; rfl
theorem row_set2 {W : World} {base g cap n : Nat} {l : List S23} (h : W.ownsRow base 23 2 (.slice (some ⟨g, 0, none⟩) n cap) n (sF l)) (hn : l.length = n) {i : Nat} (hi : i < n) (s : S23) : ((W.setCell ⟨g, i * 2, none⟩ (.int .i64 s.f0)).setCell ⟨g, i * 2 + 1, none⟩ (.int .i64 s.f1)).ownsRow base 23 2 (.slice (some ⟨g, 0, none⟩) n cap) n (sF (l.set i s)) := by
  rw [sF_set (by omega)]
  exact (((h.stored (i * 2) (.int .i64 s.f0)).1).stored (i * 2 + 1) (.int .i64 s.f1)).1
set_option maxRecDepth 100000 in
set_option maxHeartbeats 2000000 in
set_option pp.deepTerms true in
set_option pp.maxSteps 1000000 in
theorem reverse_any (w0 : World) (base g cap : Nat) (l : List S23) (w : World) (hb : Below base w0 w) (ho : w.ownsRow base 23 2 (.slice (some ⟨g, 0, none⟩) l.length cap) l.length (sF l)) (h1 : 1 ≤ l.length) (hl : l.length ≤ 2000000) :
    Calls Try.prog 81 #[.slice (some ⟨g, 0, none⟩) l.length cap] w fun e w' => e = .returned (.tuple #[]) ∧ w'.ownsRow base 23 2 (.slice (some ⟨g, 0, none⟩) l.length cap) l.length (sF l.reverse) ∧ Below base w0 w' := by
  have hu := Try.underlying23
  have hu1 := Try.underlying96
  have H0 := hid (And.intro (show w.ownsRow base 23 2 (.slice (some ⟨g, 0, none⟩) l.length cap) l.length (sF (revK l 0)) by rw [revK_zero]; exact ho) hb)
  have hgb := hid (ho.lt g rfl)
  clear ho hb
  go_enter Try.func81, Try.ntmps81
  go_wp2_with fail
  go_loopw [2, 3] (fun v2 v3 X => ∃ i j : Nat, i + j + 1 = l.length ∧ v2 = .int .i64 i ∧ v3 = .int .i64 j ∧ Hid (X.ownsRow base 23 2 (.slice (some ⟨g, 0, none⟩) l.length cap) l.length (sF (revK l i)) ∧ Below base w0 X)) (fun v2 v3 _ => l.length - (intOf v2).toNat)
  case atStart => exact ⟨0, l.length - 1, by omega, rfl, by go_num, H0⟩
  case round =>
    obtain ⟨i, j, hij, rfl, rfl, HX⟩ := hrel
    rename World => Wk
    by_cases hlt : i < j
    · obtain ⟨xi, hxi⟩ : ∃ x, l.getD i z23 = x := ⟨_, rfl⟩
      obtain ⟨xj, hxj⟩ : ∃ x, l.getD j z23 = x := ⟨_, rfl⟩
      have hj : j = l.length - 1 - i := by omega
      have c1 := row_cells2 HX.out.1 (revK_len l i) (i := i) (by omega)
      have c2 := row_cells2 HX.out.1 (revK_len l i) (i := j) (by omega)
      rw [revK_lo (by omega), hxi] at c1
      rw [hj, revK_hi (by omega), ← hj, hxj] at c2
      obtain ⟨y0, y1⟩ := c1
      obtain ⟨y2, y3⟩ := c2
      have HJ := hid (And.intro hj (And.intro hxi hxj))
      clear hj hxi hxj
      go_upto_region 3 with fail
      refine wp_flow9 [[], [], [], [], [], [], [4, 5], [6, 4, 5], [], [], [8, 9], [10, 8, 9], [0, 1, 4, 5, 6, 7, 11, 10, 8, 9], [12, 0, 1, 4, 5, 6, 7, 11, 10, 8, 9], [2, 3, 0, 1, 4, 5, 6, 7, 8, 9, 10, 11, 12, 13], [14, 2, 3, 0, 1, 4, 5, 6, 7, 8, 9, 10, 11, 12, 13]] 13
        (fun V => V.cell? ⟨g, i * 2, none⟩ = some (.int .i64 xi.f0) ∧ V.cell? ⟨g, i * 2 + 1, none⟩ = some (.int .i64 xi.f1) ∧ V.cell? ⟨g, j * 2, none⟩ = some (.int .i64 xj.f0) ∧ V.cell? ⟨g, j * 2 + 1, none⟩ = some (.int .i64 xj.f1) ∧ V.ownsRow base 23 2 (.slice (some ⟨g, 0, none⟩) l.length cap) l.length (sF (revK l i)) ∧ Below base w0 V)
        (fun u V => ∃ V0, (V0.cell? ⟨g, i * 2, none⟩ = some (.int .i64 xi.f0) ∧ V0.cell? ⟨g, i * 2 + 1, none⟩ = some (.int .i64 xi.f1) ∧ V0.cell? ⟨g, j * 2, none⟩ = some (.int .i64 xj.f0) ∧ V0.cell? ⟨g, j * 2 + 1, none⟩ = some (.int .i64 xj.f1) ∧ V0.ownsRow base 23 2 (.slice (some ⟨g, 0, none⟩) l.length cap) l.length (sF (revK l i)) ∧ Below base w0 V0) ∧ V = (V0.setCell ⟨g, i * 2, none⟩ (.int .i64 xj.f0)).setCell ⟨g, i * 2 + 1, none⟩ (.int .i64 xj.f1))
        { tmps := #[.slice (some ⟨g, 0, none⟩) l.length cap, undef, .int .i64 i, .int .i64 j, .slice (some ⟨g, 0, none⟩) l.length cap, .int .i64 l.length, .int .i64 (l.length - 1), .int .i64 i, .int .i64 j, .bool true, u10, u11, u12, u13, .slice (some ⟨g, 0, none⟩) l.length cap, .int .i64 i, .slice (some ⟨g, 0, none⟩) l.length cap, .int .i64 j, .slice (some ⟨g, 0, none⟩) l.length cap, .int .i64 j, .pointer (some ⟨g, j * 2, none⟩), .agg #[.int .i64 xj.f0, .int .i64 xj.f1], .slice (some ⟨g, 0, none⟩) l.length cap, .int .i64 i, .pointer (some ⟨g, i * 2, none⟩), .agg #[.int .i64 xi.f0, .int .i64 xi.f1], .pointer (some ⟨g, i * 2, none⟩), u27], defers := [] }
        mixed (by kernel_rfl) rfl (Ahead.of3 14 27 rfl rfl (by kernel_rfl) rfl rfl) ?_ ?_ ?_ rfl ?_
      · exact ⟨y0, y1, y2, y3, HX.out.1, HX.out.2.drew⟩
      · refine EachOp3.ops rfl ⟨?_, ?_, ?_, ?_, ?_, ?_, ?_, ?_, ?_, ?_, ?_, ?_, ?_, trivial⟩
        · exact .inl ⟨by simp, FlowOp.val 14 _ rfl rfl fun V ⟨y0, y1, y2, y3, y4, hB_⟩ => by go_simp⟩
        · exact .inl ⟨by simp, FlowOp.val 15 _ rfl rfl fun V ⟨y0, y1, y2, y3, y4, hB_⟩ => by go_simp⟩
        · exact .inr ⟨(LookOp.val 16 _ rfl rfl fun V _ => by go_simp).flow, fun u => (LookOp.val 16 _ rfl rfl fun V _ => by go_simp).flow⟩
        · exact .inr ⟨(LookOp.val 17 _ rfl rfl fun V _ => by go_simp).flow, fun u => (LookOp.val 17 _ rfl rfl fun V _ => by go_simp).flow⟩
        · exact .inl ⟨by simp, FlowOp.val 18 _ rfl rfl fun V ⟨y0, y1, y2, y3, y4, hB_⟩ => by go_simp⟩
        · exact .inl ⟨by simp, FlowOp.val 19 _ rfl rfl fun V ⟨y0, y1, y2, y3, y4, hB_⟩ => by go_simp⟩
        · exact .inl ⟨by simp, FlowOp.val 20 _ rfl rfl fun V ⟨y0, y1, y2, y3, y4, hB_⟩ => by go_simp <;> omega⟩
        · exact .inl ⟨by simp, FlowOp.val 21 _ rfl rfl fun V ⟨y0, y1, y2, y3, y4, hB_⟩ => by go_simp⟩
        · exact .inl ⟨by simp, FlowOp.val 22 _ rfl rfl fun V ⟨y0, y1, y2, y3, y4, hB_⟩ => by go_simp⟩
        · exact .inl ⟨by simp, FlowOp.val 23 _ rfl rfl fun V ⟨y0, y1, y2, y3, y4, hB_⟩ => by go_simp⟩
        · exact .inl ⟨by simp, FlowOp.val 24 _ rfl rfl fun V ⟨y0, y1, y2, y3, y4, hB_⟩ => by go_simp <;> omega⟩
        · exact .inl ⟨by simp, FlowOp.val 25 _ rfl rfl fun V ⟨y0, y1, y2, y3, y4, hB_⟩ => by go_simp⟩
        · exact .inl ⟨by simp, FlowOp.val 26 _ rfl rfl fun V ⟨y0, y1, y2, y3, y4, hB_⟩ => by go_simp <;> omega⟩
      · refine ⟨by rfl, rfl, fun V ⟨y0, y1, y2, y3, y4, hB_⟩ => ⟨_, ?_, V, ⟨y0, y1, y2, y3, y4, hB_⟩, rfl⟩⟩
        have q0 := y4.frozenAt (i * 2)
        have q1 := y4.frozenAt (i * 2 + 1)
        go_simp

      · rintro u V1 ⟨V, ⟨y0, y1, y2, y3, y4, hB_⟩, rfl⟩
        obtain ⟨hj, hxi, hxj⟩ := HJ.out
        have o1 := row_set2 y4 (revK_len l i) (i := i) (by omega) xj
        have b1 := (hB_.setCell (p := ⟨g, i * 2, none⟩) hgb.out.1 (.int .i64 xj.f0)).setCell (p := ⟨g, i * 2 + 1, none⟩) hgb.out.1 (.int .i64 xj.f1)
        generalize ((V.setCell ⟨g, i * 2, none⟩ (.int .i64 xj.f0)).setCell ⟨g, i * 2 + 1, none⟩ (.int .i64 xj.f1)) = V2 at *
        have q := row_cells2 o1 (by rw [List.length_set, revK_len]) (i := j) (by omega)
        have f0 := o1.frozenAt (j * 2)
        have f1 := o1.frozenAt (j * 2 + 1)
        have o2 := row_set2 o1 (by rw [List.length_set, revK_len]) (i := j) (by omega) xi
        have b2 := (b1.setCell (p := ⟨g, j * 2, none⟩) hgb.out.1 (.int .i64 xi.f0)).setCell (p := ⟨g, j * 2 + 1, none⟩) hgb.out.1 (.int .i64 xi.f1)
        have er : revK l (i + 1) = ((revK l i).set i xj).set j xi := by rw [revK_succ (by omega), ← hj, hxi, hxj]
        rw [← er] at o2
        obtain ⟨q0, q1⟩ := q
        have HF := hid (And.intro o2 b2)
        have HL := hid hij
        have HLT := hid hlt
        clear o1 o2 b1 b2 hB_ y0 y1 y2 y3 y4 er hj hxi hxj HJ
        go_wp2
        go_roundw
        case rel => exact ⟨i + 1, j - 1, by have := HL.out; have := HLT.out; omega, by go_num, by have := HLT.out; go_num, HF⟩
        case measure => have := HLT.out; have := HL.out; simp [intOf]; omega
    · have HE := hid (And.intro (show l.length - 1 - i ≤ i by omega) HX.out)
      clear HX
      go_wp2
      go_end0
      exact ⟨rfl, by rw [← revK_end HE.out.1]; exact HE.out.2.1, HE.out.2.2⟩
end Go.Proofs.Ytbmkbokkmmdjdaa
end
section
namespace Go.Proofs.Ytbmkbokkmmdjdaa
open Go.RowKit Go.Proofs.YtbmkbokkmmdjdaaW.PrintWords Go.Proofs.YtbmkbokkmmdjdaaW.PrintLast Go.Proofs.YtbmkbokkmmdjdaaW.PrintMore
open Q Go.Shelf
attribute [local go_sem] Oper.semAt_some wide_depth wide_fn
set_option linter.unusedVariables false
set_option linter.unusedSimpArgs false

def stepsK (th by_ : List S23) (n : Nat) : List (S23 × S23) := (List.range n).map fun j => (th.getD (by_.length - 1 - j) z23, by_.getD (by_.length - 1 - j) z23)
theorem stepsK_len (th by_ : List S23) (n : Nat) : (stepsK th by_ n).length = n := by simp [stepsK]
theorem stepsK_succ (th by_ : List S23) (n : Nat) : stepsK th by_ (n + 1) = stepsK th by_ n ++ [(th.getD (by_.length - 1 - n) z23, by_.getD (by_.length - 1 - n) z23)] := by
  unfold stepsK
  rw [List.range_succ, List.map_append]
  rfl
def bothL (ho fi : S23) (k : Int) (by_ : List S23) : List S23 := (outK bothS ((forwardL ho fi k by_).getD by_.length z23) (stepsK (forwardL ho fi k by_) by_ by_.length) by_.length).reverse
theorem info138' : ∃ i0, Try.prog.info? 138 = some i0 ∧ i0.zero = some (.agg #[.int .i64 0, .int .i64 0, .int .i64 0, .int .i64 0]) ∧ i0.size = 4 ∧ i0.bytes = 32 := info_parts (by kernel_rfl)
theorem forwardL_len (ho fi : S23) (k : Int) (by_ : List S23) : (forwardL ho fi k by_).length = by_.length + 1 := by unfold forwardL; exact outK_len _ _ _ _
set_option maxRecDepth 100000 in
set_option maxHeartbeats 4000000 in
set_option pp.deepTerms true in
set_option pp.maxSteps 1000000 in
theorem both_any (ho fi : S23) (A : Option Addr) (c : Nat) (l : List S36) (k h : Int) (A2 : Option Addr) (c2 : Nat) (by_ : List S23) (w : World) (hr2 : Kd.C k23 w A2 by_.length by_) (hl2 : by_.length ≤ 1000000) :
    Calls Try.prog 44 #[.agg #[.int .i64 ho.f0, .int .i64 ho.f1, .int .i64 fi.f0, .int .i64 fi.f1, .slice A l.length c], .agg #[.int .u8 k, .int .i64 h], .slice A2 by_.length c2] w (RetSpans (bothL ho fi k by_) w) := by
  have hu := Try.underlying23
  have hu1 := Try.underlying96
  have hu2 := Try.underlying138
  have hu3 := Try.underlying136
  have hbel := ((Below.refl w.heap.size w).alloc (Nat.le_refl _) (.cells #[.int .i64 ho.f0, .int .i64 ho.f1, .int .i64 fi.f0, .int .i64 fi.f1, .slice A l.length c] 26)).alloc (by simp) (.cells #[.int .u8 k, .int .i64 h] 92)
  go_enter Try.func44, Try.ntmps44
  go_wp2_with fail
  generalize ((w.alloc (.cells #[.int .i64 ho.f0, .int .i64 ho.f1, .int .i64 fi.f0, .int .i64 fi.f1, .slice A l.length c] 26)).alloc (.cells #[.int .u8 k, .int .i64 h] 92)) = W1 at *
  have HFW := hid (forward_any ho fi A c l k h A2 c2 by_ W1 (Kd.C_below hr2 hbel) hl2)
  have HR := hid hr2
  have H1 := hid hbel
  clear hr2 hbel
  refine HFW.out.mono ?_
  rintro e W2 ⟨v, rfl, ho2, hb⟩
  have hb2 := H1.out.trans (hb.mono H1.out.size)
  obtain ⟨th, hth⟩ : ∃ th, forwardL ho fi k by_ = th := ⟨_, rfl⟩
  have hthl : th.length = by_.length + 1 := by rw [← hth]; exact forwardL_len ho fi k by_
  rw [hth, hthl] at ho2
  obtain ⟨gt, ct, rfl⟩ := ownsRow_succ ho2
  have H2 := hid (And.intro hb2 (And.intro (own_lower H1.out.size ho2) (And.intro hth (And.intro hthl (ho2.lt gt rfl).2))))
  have HB := hid (Below.refl W2.heap.size W2)
  have HL := hid hl2
  clear hb hb2 ho2 hth hthl H1 HFW hl2
  go_wp2_with fail
  go_loopw [8, 9] (fun v8 v9 X => ∃ (n : Nat) (q : Int), (n : Int) + q + 1 = by_.length ∧ -1 ≤ q ∧ v9 = .int .i64 q ∧ ∃ A' m' c', v8 = .slice A' m' c' ∧ Hid (Below W2.heap.size W2 X ∧ X.ownsRow W2.heap.size 138 4 (.slice A' m' c') n (tF (stepsK th by_ n)))) (fun v8 v9 _ => (intOf v9 + 1).toNat)
  case atStart => exact ⟨0, (by_.length : Int) - 1, by omega, by omega, by rw [wrap64_id (by omega) (by have := HL.out; omega)], none, 0, 0, rfl, hid ⟨HB.out, by simp [World.ownsRow, stepsK, tF]⟩⟩
  case round =>
    obtain ⟨n, q, hnq, hq1, rfl, A', m', c', rfl, HX⟩ := hrel
    rename World => Wk
    by_cases hlt : 0 ≤ q
    · obtain ⟨i, rfl⟩ : ∃ i : Nat, q = i := ⟨q.toNat, by omega⟩
      have hil : i < by_.length := by omega
      obtain ⟨ti, hti⟩ : ∃ x, th.getD i z23 = x := ⟨_, rfl⟩
      obtain ⟨xi, hxi⟩ : ∃ x, by_.getD i z23 = x := ⟨_, rfl⟩
      have hcc := at_T23 (Kd.C_below HR.out (H2.out.1.trans (HX.out.1.mono H2.out.1.size))) i (by omega) (by omega)
      have hrd : rd_T23 by_ (i : Int) = xi := by rw [rd23' hil, ← hxi]; simp [List.getD, hil]
      rw [hrd] at hcc
      simp only [Int.toNat_natCast] at hcc
      obtain ⟨ad, rfl, y2, y3⟩ := hcc
      have c1 := row_cells2 (rings_set H2.out.2.1 HX.out.1) H2.out.2.2.2.1 (i := i) (by omega)
      rw [hti] at c1
      obtain ⟨y0, y1⟩ := c1
      clear hrd
      go_upto_region 6 with fail
      refine wp_flow3 [[], [], [], [1, 2], [3, 1, 2], [], [], [5, 6], [7, 5, 6], [4, 3, 1, 2, 8, 7, 5, 6], [9, 4, 3, 1, 2, 8, 7, 5, 6], [0, 10, 9, 4, 3, 1, 2, 8, 7, 5, 6], [11, 0, 10, 9, 4, 3, 1, 2, 8, 7, 5, 6]] 10
        (fun V => V.cell? ⟨gt, i * 2, none⟩ = some (.int .i64 ti.f0) ∧ V.cell? ⟨gt, i * 2 + 1, none⟩ = some (.int .i64 ti.f1) ∧ V.cell? (ad.add (i * 2)) = some (.int .i64 xi.f0) ∧ V.cell? ⟨(ad.add (i * 2)).block, (ad.add (i * 2)).off + 1, none⟩ = some (.int .i64 xi.f1) ∧ Below Wk.heap.size Wk V)
        (fun u V => (V.cell? ⟨gt, i * 2, none⟩ = some (.int .i64 ti.f0) ∧ V.cell? ⟨gt, i * 2 + 1, none⟩ = some (.int .i64 ti.f1) ∧ V.cell? (ad.add (i * 2)) = some (.int .i64 xi.f0) ∧ V.cell? ⟨(ad.add (i * 2)).block, (ad.add (i * 2)).off + 1, none⟩ = some (.int .i64 xi.f1) ∧ Below Wk.heap.size Wk V) ∧ ∃ V0, u = .slice (some ⟨V0.heap.size, 0, none⟩) 1 1 ∧ Below Wk.heap.size Wk V0 ∧ V = V0.alloc (.cells #[.int .i64 ti.f0, .int .i64 ti.f1, .int .i64 xi.f0, .int .i64 xi.f1] 138))
        { tmps := #[.agg #[.int .i64 ho.f0, .int .i64 ho.f1, .int .i64 fi.f0, .int .i64 fi.f1, .slice A l.length c], .agg #[.int .u8 k, .int .i64 h], .slice (some ad) by_.length c2, .pointer (some ⟨w.heap.size, 0, none⟩), .pointer (some ⟨w.heap.size + 1, 0, none⟩), undef, .slice none 0 0, .slice (some ⟨gt, 0, none⟩) (by_.length + 1) ct, .slice A' m' c', .int .i64 i, undef, .agg #[.int .i64 ho.f0, .int .i64 ho.f1, .int .i64 fi.f0, .int .i64 fi.f1, .slice A l.length c], .agg #[.int .u8 k, .int .i64 h], .slice (some ad) by_.length c2, .slice (some ⟨gt, 0, none⟩) (by_.length + 1) ct, .slice (some ad) by_.length c2, .int .i64 by_.length, .int .i64 (wrap64 (by_.length - 1)), .int .i64 i, .bool true, u20, u21, .slice A' m' c', .slice (some ⟨gt, 0, none⟩) (by_.length + 1) ct, .int .i64 i, .pointer (some ⟨gt, i * 2, none⟩), .agg #[.int .i64 ti.f0, .int .i64 ti.f1], .slice (some ad) by_.length c2, .int .i64 i, .pointer (some (ad.add (i * 2))), .agg #[.int .i64 xi.f0, .int .i64 xi.f1], .agg #[.int .i64 ti.f0, .int .i64 ti.f1, .int .i64 xi.f0, .int .i64 xi.f1], u32, u33, undef, undef, undef, undef, undef, undef, undef, undef, undef, undef], defers := [] }
        mixed (by kernel_rfl) rfl (Ahead.of3 22 32 rfl rfl (by kernel_rfl) rfl rfl) ?_ ?_ ?_ rfl ?_
      · exact ⟨y0, y1, y2, y3, (Below.refl _ _).drew⟩
      · refine EachOp3.ops rfl ⟨?_, ?_, ?_, ?_, ?_, ?_, ?_, ?_, ?_, ?_, trivial⟩
        · exact .inr (LookOp.either (fun _ _ h => h.1) (LookOp.val 22 _ rfl rfl fun V ⟨x0, x1, x2, x3, hB_⟩ => by go_simp))
        · exact .inr (LookOp.either (fun _ _ h => h.1) (LookOp.val 23 _ rfl rfl fun V ⟨x0, x1, x2, x3, hB_⟩ => by go_simp))
        · exact .inr (LookOp.either (fun _ _ h => h.1) (LookOp.val 24 _ rfl rfl fun V ⟨x0, x1, x2, x3, hB_⟩ => by go_simp))
        · exact .inr (LookOp.either (fun _ _ h => h.1) (LookOp.val 25 _ rfl rfl fun V ⟨x0, x1, x2, x3, hB_⟩ => by go_simp <;> omega))
        · exact .inr (LookOp.either (fun _ _ h => h.1) (LookOp.val 26 _ rfl rfl fun V ⟨x0, x1, x2, x3, hB_⟩ => by go_simp))
        · exact .inr (LookOp.either (fun _ _ h => h.1) (LookOp.val 27 _ rfl rfl fun V ⟨x0, x1, x2, x3, hB_⟩ => by go_simp))
        · exact .inr (LookOp.either (fun _ _ h => h.1) (LookOp.val 28 _ rfl rfl fun V ⟨x0, x1, x2, x3, hB_⟩ => by go_simp))
        · exact .inr (LookOp.either (fun _ _ h => h.1) (LookOp.val 29 _ rfl rfl fun V ⟨x0, x1, x2, x3, hB_⟩ => by go_simp <;> omega))
        · exact .inr (LookOp.either (fun _ _ h => h.1) (LookOp.val 30 _ rfl rfl fun V ⟨x0, x1, x2, x3, hB_⟩ => by go_simp))
        · exact .inr (LookOp.either (fun _ _ h => h.1) (LookOp.val 31 _ rfl rfl fun V ⟨x0, x1, x2, x3, hB_⟩ => by go_simp))
      · refine ⟨rfl, fun V ⟨x0, x1, x2, x3, hB_⟩ => ?_⟩
        have hgr := (Below.refl V.heap.size V).alloc (Nat.le_refl _) (.cells #[.int .i64 ti.f0, .int .i64 ti.f1, .int .i64 xi.f0, .int .i64 xi.f1] 138)
        exact ⟨.slice (some ⟨V.heap.size, 0, none⟩) 1 1, V.alloc (.cells #[.int .i64 ti.f0, .int .i64 ti.f1, .int .i64 xi.f0, .int .i64 xi.f1] 138), by go_simp, ⟨cell_grow x0 hgr, cell_grow x1 hgr, cell_growp x2 hgr, cell_grow x3 hgr, hB_.trans (hgr.mono hB_.size)⟩, V, rfl, hB_, rfl⟩
      · rintro u V1 ⟨⟨x0, x1, x2, x3, hB_⟩, V, rfl, hV, rfl⟩
        obtain ⟨hb0, ho0⟩ := HX.out
        have hgr := (Below.refl V.heap.size V).alloc (Nat.le_refl _) (.cells #[.int .i64 ti.f0, .int .i64 ti.f1, .int .i64 xi.f0, .int .i64 xi.f1] 138)
        have hnew := World.alloc_heap_new V (.cells #[.int .i64 ti.f0, .int .i64 ti.f1, .int .i64 xi.f0, .int .i64 xi.f1] 138)
        have hb6 := hb0.trans (hV.mono hb0.size)
        have hb7 := hb6.trans (hgr.mono hb6.size)
        have ho7 := rings_set (rings_set ho0 hV) hgr
        have hs7 : W2.heap.size ≤ (V.alloc (.cells #[.int .i64 ti.f0, .int .i64 ti.f1, .int .i64 xi.f0, .int .i64 xi.f1] 138)).heap.size := hb7.size
        have HT := hid (And.intro hti hxi)
        clear hti hxi hb0 ho0 HX x0 x1 x2 x3 hB_ hV hb6
        generalize V.alloc (.cells #[.int .i64 ti.f0, .int .i64 ti.f1, .int .i64 xi.f0, .int .i64 xi.f1] 138) = W7 at *
        generalize V.heap.size = B7 at *
        clear hgr
        obtain ⟨i0, hi, hz0, hz1, hz2⟩ := info138'
        refine wpList_append_own W7 rfl _ _ 136 rfl W2.heap.size 138 i0 _ 4 32 Try.underlying136 hi hz0 hz1 hz2 rfl (by decide) (.slice A' m' c') n (tF (stepsK th by_ n)) rfl ho7 ⟨B7, 0, none⟩ 1 1 (tC (ti, xi)) rfl rfl (row_cells hnew) (by simp [tC, Value.oneCell']) (by unfold maxLen; have := HL.out; omega) (by have := HL.out; omega) hs7 ?_
        intro v' W9 hown' hgrow _
        obtain ⟨g', cap', rfl⟩ := ownsRow_succ hown'
        have hb9 := hb7.grown hgrow hb7.size (fun j hj => by have := (ho7.lt j hj).1; omega)
        have HFF := hid (And.intro hb9 hown')
        clear hnew hb7 ho7 hs7 hi hz0 hz1 hz2 hown' hgrow hb9
        go_wp2
        go_roundw
        case rel => exact ⟨n + 1, (i : Int) - 1, by omega, by omega, by rw [wrap64_id (by omega) (by have := HL.out; omega)], _, _, _, rfl, hid ⟨HFF.out.1, by rw [stepsK_succ, show by_.length - 1 - n = i by omega, HT.out.1, HT.out.2, tF_snoc]; exact HFF.out.2⟩⟩
        case measure => simp only [intOf]; rw [wrap64_id (by omega) (by have := HL.out; omega)]; omega

    · obtain rfl : q = -1 := by omega
      obtain rfl : n = by_.length := by omega
      have c1 := row_cells2 (rings_set H2.out.2.1 HX.out.1) H2.out.2.2.2.1 (i := by_.length) (by omega)
      obtain ⟨y0, y1⟩ := c1
      obtain ⟨sn, hsn⟩ : ∃ x, th.getD by_.length z23 = x := ⟨_, rfl⟩
      rw [hsn] at y0 y1
      obtain ⟨hb0, ho0⟩ := HX.out
      obtain rfl : m' = by_.length := by
        rcases ho0.2 with ⟨h1, h2⟩ | ⟨g1, c1, u1, h1, _⟩
        · injection h1 with e1 e2 e3; omega
        · injection h1 with e1 e2 e3
      have HFO := hid (foldedT_any 80 #[] enters80 bothS sn A' c' (stepsK th by_ by_.length) Wk (by rw [stepsK_len]; exact own_lower (Nat.zero_le _) ho0) (by rw [stepsK_len]; exact HL.out) (fun s x W' _ => by
        have := both1_any s x W'
        simpa only [Array.append_empty] using this))
      have H3 := hid (And.intro (H2.out.1.trans (hb0.mono H2.out.1.size)) hsn)
      rw [stepsK_len] at HFO
      clear hb0 ho0 HX hsn
      go_wp2_with fail
      refine HFO.out.mono ?_
      rintro e W5 ⟨v, rfl, ho5, hb⟩
      rw [outK_len] at ho5
      obtain ⟨g5, c5, rfl⟩ := ownsRow_succ ho5
      have hlen : (outK bothS sn (stepsK th by_ by_.length) by_.length).length = by_.length + 1 := outK_len _ _ _ _
      have hbo : bothL ho fi k by_ = (outK bothS sn (stepsK th by_ by_.length) by_.length).reverse := by unfold bothL; rw [H2.out.2.2.1, H3.out.2]
      have hb5 := H3.out.1.trans (hb.mono H3.out.1.size)
      generalize outK bothS sn (stepsK th by_ by_.length) by_.length = out at *
      have HRV := hid (reverse_any w w.heap.size g5 c5 out W5 hb5 (by rw [hlen]; exact own_lower H3.out.1.size ho5) (by rw [hlen]; omega) (by rw [hlen]; have := HL.out; omega))
      rw [hlen] at HRV
      have H5 := hid (And.intro hbo hlen)
      clear ho5 hb hb5 hlen hbo HFO y0 y1
      go_wp2_with fail
      refine HRV.out.mono ?_
      rintro e W6 ⟨rfl, ho6, hb6⟩
      have H6 := hid (And.intro ho6 hb6)
      clear ho6 hb6 HRV
      go_wp2
      go_ret
      exact ⟨_, rfl, by rw [H5.out.1, List.length_reverse, H5.out.2]; exact H6.out.1, H6.out.2⟩
end Go.Proofs.Ytbmkbokkmmdjdaa
end
section
namespace Go.Proofs.Ytbmkbokkmmdjdaa
open Go.RowKit Go.Proofs.YtbmkbokkmmdjdaaW.PrintWords Go.Proofs.YtbmkbokkmmdjdaaW.PrintLast Go.Proofs.YtbmkbokkmmdjdaaW.PrintMore
open Q Go.Shelf
attribute [local go_sem] Oper.semAt_some wide_depth wide_fn
set_option linter.unusedVariables false
set_option linter.unusedSimpArgs false

def wStep (ho fi : S23) (l : List S36) (p : Int × Int × Int) (a : Int × Int) : Int × Int × Int := if 0 ≤ wrongS (forwardL ho fi a.1 (chgL l a)) ∧ mx (wrap64 (wrongS (forwardL ho fi a.1 (chgL l a)) - 1)) 0 < p.1 then (mx (wrap64 (wrongS (forwardL ho fi a.1 (chgL l a)) - 1)) 0, a.1, a.2) else p
def wrongK (ho fi : S23) (l : List S36) (k : Nat) : Int × Int × Int := ((accs (keptOf l).hs.length).take k).foldl (wStep ho fi l) (l.length, 0, 0)
def wrongAll (ho fi : S23) (l : List S36) : Int × Int × Int := (accs (keptOf l).hs.length).foldl (wStep ho fi l) (l.length, 0, 0)
def wrongV (ho fi : S23) (l : List S36) : Value := if bookErr ho fi l = 0 then .tuple #[.int .i64 (wrongAll ho fi l).1, .int .u8 (wrongAll ho fi l).2.1, .int .i64 (wrongAll ho fi l).2.2, .int .i64 0] else .tuple #[.int .i64 0, .int .u8 0, .int .i64 0, .int .i64 (bookErr ho fi l)]
theorem chgL_len (l : List S36) (a : Int × Int) : (chgL l a).length = l.length := chgK_len _ _ _ _
theorem wrongS_le (l : List S23) : -1 ≤ wrongS l ∧ wrongS l ≤ l.length := by
  unfold wrongS idxS
  split
  · have := List.findIdx_le_length (p := isWrong) (xs := l); omega
  · omega
theorem own_Kd {W : World} {base : Nat} {A : Option Addr} {n c : Nat} {l : List S23} (h : W.ownsRow base 23 2 (.slice A n c) n (sF l)) (hn : l.length = n) : Kd.C k23 W A n l := by
  subst hn
  have hr : Reps (k23.K W) 2 l (sF l) := by
    have := reps_flat (R := k23.K W) (f := id) (g := sC) (sz := 2) (fun x => k23_mk W x) (fun x => rfl) l
    rwa [List.map_id] at this
  obtain ⟨A', c', he, _, hr'⟩ := OwnRow.reads (R := k23.K W) (e := 23) (size := 2) ⟨sF l, h, hr⟩
  injection he with e1 e2 e3
  subst e1
  exact hr'
theorem own_KdA {W : World} {base Bm n : Nat} {K : List (Int × Int)} {g : Int × Int → Nat} {L : Int × Int → List S23} (h : AI W base Bm n K g L) {a : Int × Int} (ha : a ∈ K) (hn : n ≤ 1000000) : Kd.C k23 W (some ⟨g a, 0, none⟩) (L a).length (L a) := by
  refine own_Kd (base := 0) (c := n) ⟨?_, .inr ⟨g a, n, _, rfl, Nat.zero_le _, h.bl a ha, ?_, ?_, ?_, ?_⟩⟩ rfl
  · rw [sF_len]
  · rw [h.ln a ha]; exact Nat.le_refl _
  · unfold maxLen; omega
  · rw [List.size_toArray, sF_len, h.ln a ha]
  · exact List.take_of_length_le (by rw [List.toList_toArray, sF_len]; exact Nat.le_refl _)
set_option maxRecDepth 100000 in
set_option maxHeartbeats 8000000 in
set_option pp.deepTerms true in
set_option pp.maxSteps 1000000 in
theorem Wrong_any (ho fi : S23) (A : Option Addr) (c : Nat) (l : List S36) (w : World) (hr : Kd.C k36 w A l.length l) (hc : l.length ≤ c) :
    Calls Try.prog 24 #[.agg #[.int .i64 ho.f0, .int .i64 ho.f1, .int .i64 fi.f0, .int .i64 fi.f1, .slice A l.length c]] w fun e w' => e = .returned (wrongV ho fi l) ∧ Below w.heap.size w w' := by
  have hu := Try.underlying26
  have hu2 := Try.underlying92
  have hu3 := Try.underlying94
  have hbel := (Below.refl w.heap.size w).alloc (Nat.le_refl _) (.cells #[.int .i64 ho.f0, .int .i64 ho.f1, .int .i64 fi.f0, .int .i64 fi.f1, .slice A l.length c] 26)
  have e0 := World.alloc_heap_new w (.cells #[.int .i64 ho.f0, .int .i64 ho.f1, .int .i64 fi.f0, .int .i64 fi.f1, .slice A l.length c] 26)
  have HR := hid hr
  go_enter Try.func24, Try.ntmps24
  go_wp2_with fail
  generalize w.alloc (.cells #[.int .i64 ho.f0, .int .i64 ho.f1, .int .i64 fi.f0, .int .i64 fi.f1, .slice A l.length c] 26) = W1 at *
  refine (Check_any ho fi A c l _ (Kd.C_below HR.out hbel) hc).mono ?_
  rintro e W2 ⟨rfl, hb⟩
  have hb2 := hbel.trans (hb.mono hbel.size)
  have e2 := heap_grow e0 hb
  clear hbel hb e0 hr
  by_cases hv : bookErr ho fi l = 0
  · have HV := hid hv
    have HL := hid (bookOk_of hv).len
    have H2 := hid (And.intro hb2 e2)
    rw [hv]
    clear hv hc
    have y0 := blkCell e2 0
    have y1 := blkCell e2 1
    have y2 := blkCell e2 2
    have y3 := blkCell e2 3
    have y4 := blkCell e2 4
    simp at y0 y1 y2 y3 y4
    clear hb2 e2
    go_wp2_with fail
    refine (changes_any ho fi A c l _ (Kd.C_below HR.out H2.out.1) HV.out).mono ?_
    rintro e W3 ⟨Bm, g, rfl, hA, hb⟩
    have hb3 := H2.out.1.trans (hb.mono H2.out.1.size)
    have e3 := heap_grow H2.out.2 hb
    clear y0 y1 y2 y3 y4
    have y0 := blkCell e3 0
    have y1 := blkCell e3 1
    have y2 := blkCell e3 2
    have y3 := blkCell e3 3
    have y4 := blkCell e3 4
    simp at y0 y1 y2 y3 y4
    have H3 := hid (And.intro hb3 (And.intro e3 hA))
    clear hb3 e3 hA hb H2
    go_wp2_with fail
    refine (accounts_any ho fi A c l _ (Kd.C_below HR.out H3.out.1) HV.out).mono ?_
    rintro e W4 ⟨va, rfl, hra, hb⟩
    obtain ⟨Aa, ca, rfl⟩ := own_slice hra
    have H4 := hid (And.intro (H3.out.1.trans (hb.mono H3.out.1.size)) (And.intro (heap_grow H3.out.2.1 hb) (And.intro (H3.out.2.2.grow hb) hra)))
    have HB := hid (Below.refl W4.heap.size W4)
    have HAL := hid (accs_len (keptOf l).hs.length)
    have HN := hid (show (keptOf l).hs.length ≤ 256 by have := kept_len l l.length (Nat.le_refl _); rw [List.take_length] at this; have := HL.out; omega)
    have HWA := hid (show wrongAll ho fi l = wrongK ho fi l (accs (keptOf l).hs.length).length by unfold wrongAll wrongK; rw [List.take_length])
    have HWK := hid (show ∀ k (hk : k < (accs (keptOf l).hs.length).length), wrongK ho fi l (k + 1) = wStep ho fi l (wrongK ho fi l k) (accs (keptOf l).hs.length)[k] by
      intro k hk
      unfold wrongK
      rw [List.take_succ_eq_append_getElem hk, List.foldl_append]
      rfl)
    have HW0 := hid (show wrongK ho fi l 0 = ((l.length : Int), 0, 0) from rfl)
    clear hra hb H3 y0 y1 y2 y3 y4
    obtain ⟨KA, hKA⟩ : ∃ KA, accs (keptOf l).hs.length = KA := ⟨_, rfl⟩
    rw [hKA] at H4 HAL HWA HWK
    have hbn : KA.length ≤ 258 := by have := HAL.out; have := HN.out; omega
    rw [hKA]
    clear hKA
    go_wp2
    go_loopw [2, 3, 4, 24] (fun v2 v3 v4 v24 X => ∃ k : Nat, k ≤ KA.length ∧ v24 = .int .i64 k ∧ ∃ p : Int × Int × Int, v2 = .int .i64 p.1 ∧ v3 = .int .u8 p.2.1 ∧ v4 = .int .i64 p.2.2 ∧ Hid (p = wrongK ho fi l k ∧ Below W4.heap.size W4 X)) (fun v2 v3 v4 v24 _ => KA.length - (intOf v24).toNat)
    case atStart => exact ⟨0, by omega, rfl, ((l.length : Int), 0, 0), rfl, rfl, rfl, hid ⟨HW0.out.symm, HB.out⟩⟩
    case round =>
      obtain ⟨k, hk, rfl, p, rfl, rfl, rfl, HX⟩ := hrel
      rename World => Wk
      by_cases hlt : k < KA.length
      · obtain ⟨a, hka⟩ : ∃ a, KA[k] = a := ⟨_, rfl⟩
        have hma : a ∈ KA := by rw [← hka]; exact List.getElem_mem hlt
        have hkd : KA.getD k (0, 0) = a := by rw [← hka]; simp [List.getD, hlt]
        have hwk := HWK.out k hlt
        rw [hka] at hwk
        have hra := rings_set H4.out.2.2.2 HX.out.2
        obtain ⟨ga, gc, hga⟩ : ∃ ga gc, Aa = some ⟨ga, 0, none⟩ ∧ gc = ca := by
          rcases hra.2 with ⟨h1, h2⟩ | ⟨g1, c1, u1, h1, _⟩
          · injection h1 with e1 e2 e3; omega
          · injection h1 with e1 e2 e3; exact ⟨g1, c1, e1, e3.symm⟩
        obtain ⟨rfl, rfl⟩ := hga
        have q0 : Wk.cell? ⟨ga, k * 2, none⟩ = some (.int .u8 a.1) := by
          have e := hra.cellAt (k * 2 + 0) (by omega)
          rw [aF_at hlt (by omega), hkd] at e; exact e
        have q1 : Wk.cell? ⟨ga, k * 2 + 1, none⟩ = some (.int .i64 a.2) := by
          have e := hra.cellAt (k * 2 + 1) (by omega)
          rw [aF_at hlt (by omega), hkd] at e; exact e
        have HA := hid (And.intro hma hwk)
        have HLT := hid hlt
        clear hra hka hkd hma hwk
        go_upto_region 9 with fail
        have hgr := (Below.refl Wk.heap.size Wk).alloc (Nat.le_refl _) (.cells #[.int .u8 a.1, .int .i64 a.2] 92)
        have hnew := World.alloc_heap_new Wk (.cells #[.int .u8 a.1, .int .i64 a.2] 92)
        have hb5 := HX.out.2.trans (hgr.mono HX.out.2.size)
        have HP := hid HX.out.1
        generalize Wk.alloc (.cells #[.int .u8 a.1, .int .i64 a.2] 92) = W5 at *
        generalize Wk.heap.size = B5 at *
        have hbx := heap_grow H4.out.2.1 hb5
        have hA5 := H4.out.2.2.1.grow hb5
        have y0 := blkCell hbx 0
        have y1 := blkCell hbx 1
        have y2 := blkCell hbx 2
        have y3 := blkCell hbx 3
        have y4 := blkCell hbx 4
        have y5 := blkCell hnew 0
        have y6 := blkCell hnew 1
        simp at y0 y1 y2 y3 y4 y5 y6
        have HQ := hid (And.intro hA5 (hA5.find HA.out.1))
        have H5 := hid (And.intro hb5 hnew)
        clear hgr hnew hb5 hbx hA5 q0 q1 HX
        refine wp_flow8 [[], [], [], [], [2, 3], [0, 1, 4, 2, 3], [5, 0, 1, 4, 2, 3], [6, 5, 0, 1, 4, 2, 3]] 5
          (fun V => V.cell? ⟨w.heap.size, 0, none⟩ = some (.int .i64 ho.f0) ∧ V.cell? ⟨w.heap.size, 1, none⟩ = some (.int .i64 ho.f1) ∧ V.cell? ⟨w.heap.size, 2, none⟩ = some (.int .i64 fi.f0) ∧ V.cell? ⟨w.heap.size, 3, none⟩ = some (.int .i64 fi.f1) ∧ V.cell? ⟨w.heap.size, 4, none⟩ = some (.slice A l.length c) ∧ V.cell? ⟨B5, 0, none⟩ = some (.int .u8 a.1) ∧ V.cell? ⟨B5, 1, none⟩ = some (.int .i64 a.2) ∧ Below W5.heap.size W5 V)
          (fun u V => (V.cell? ⟨w.heap.size, 0, none⟩ = some (.int .i64 ho.f0) ∧ V.cell? ⟨w.heap.size, 1, none⟩ = some (.int .i64 ho.f1) ∧ V.cell? ⟨w.heap.size, 2, none⟩ = some (.int .i64 fi.f0) ∧ V.cell? ⟨w.heap.size, 3, none⟩ = some (.int .i64 fi.f1) ∧ V.cell? ⟨w.heap.size, 4, none⟩ = some (.slice A l.length c) ∧ V.cell? ⟨B5, 0, none⟩ = some (.int .u8 a.1) ∧ V.cell? ⟨B5, 1, none⟩ = some (.int .i64 a.2) ∧ Below W5.heap.size W5 V) ∧ ∃ A5 c5, u = .slice A5 (l.length + 1) c5 ∧ V.ownsRow 0 23 2 (.slice A5 (l.length + 1) c5) (l.length + 1) (sF (forwardL ho fi a.1 (chgL l a))))
          { tmps := #[.agg #[.int .i64 ho.f0, .int .i64 ho.f1, .int .i64 fi.f0, .int .i64 fi.f1, .slice A l.length c], .pointer (some ⟨w.heap.size, 0, none⟩), .int .i64 p.1, .int .u8 p.2.1, .int .i64 p.2.2, .int .i64 0, .int .i64 0, .map (some Bm), undef, .pointer (some ⟨B5, 0, none⟩), u10, .agg #[.int .i64 ho.f0, .int .i64 ho.f1, .int .i64 fi.f0, .int .i64 fi.f1, .slice A l.length c], .int .i64 0, .int .i64 0, .bool false, undef, .pointer (some ⟨w.heap.size, 4, none⟩), .slice A l.length c, .int .i64 l.length, .agg #[.int .i64 ho.f0, .int .i64 ho.f1, .int .i64 fi.f0, .int .i64 fi.f1, .slice A l.length c], .map (some Bm), .agg #[.int .i64 ho.f0, .int .i64 ho.f1, .int .i64 fi.f0, .int .i64 fi.f1, .slice A l.length c], .slice (some ⟨ga, 0, none⟩) KA.length gc, .int .i64 KA.length, .int .i64 k, .bool true, .pointer (some ⟨ga, k * 2, none⟩), .agg #[.int .u8 a.1, .int .i64 a.2], .agg #[.int .i64 ho.f0, .int .i64 ho.f1, .int .i64 fi.f0, .int .i64 fi.f1, .slice A l.length c], .agg #[.int .u8 a.1, .int .i64 a.2], .map (some Bm), .agg #[.int .u8 a.1, .int .i64 a.2], .slice (some ⟨g a, 0, none⟩) l.length l.length, u33, u34, u35, u36, u37, u38, u39, u40, u41, u42, u43, u44, u45, u46, u47, u48, u49, u50, u51, undef, undef, undef], defers := [] }
          mixed (by kernel_rfl) rfl (Ahead.of3 28 33 rfl rfl (by kernel_rfl) rfl rfl) ?_ ?_ ?_ rfl ?_
        · exact ⟨y0, y1, y2, y3, y4, y5, y6, (Below.refl _ _).drew⟩
        · refine EachOp3.ops rfl ⟨?_, ?_, ?_, ?_, ?_, trivial⟩
          · exact .inr (LookOp.either (fun _ _ h => h.1) (LookOp.val 28 _ rfl rfl fun V ⟨y0, y1, y2, y3, y4, y5, y6, hB_⟩ => by go_simp))
          · exact .inr (LookOp.either (fun _ _ h => h.1) (LookOp.val 29 _ rfl rfl fun V ⟨y0, y1, y2, y3, y4, y5, y6, hB_⟩ => by go_simp))
          · exact .inr (LookOp.either (fun _ _ h => h.1) (LookOp.val 30 _ rfl rfl fun V ⟨y0, y1, y2, y3, y4, y5, y6, hB_⟩ => by go_simp))
          · exact .inr (LookOp.either (fun _ _ h => h.1) (LookOp.val 31 _ rfl rfl fun V ⟨y0, y1, y2, y3, y4, y5, y6, hB_⟩ => by go_simp))
          · exact .inr (LookOp.either (fun _ _ h => h.1) (LookOp.val 32 _ rfl rfl fun V ⟨y0, y1, y2, y3, y4, y5, y6, hB_⟩ => by have hlk := run_lookA (HQ.out.1.grow hB_).mp HQ.out.2; go_simp))
        · refine ⟨by rfl, fun V ⟨y0, y1, y2, y3, y4, y5, y6, hB_⟩ => ⟨43, #[.agg #[.int .i64 ho.f0, .int .i64 ho.f1, .int .i64 fi.f0, .int .i64 fi.f1, .slice A l.length c], .agg #[.int .u8 a.1, .int .i64 a.2], .slice (some ⟨g a, 0, none⟩) l.length l.length], V, by go_simp, ?_⟩⟩
          have hfw := forward_any ho fi A c l a.1 a.2 (some ⟨g a, 0, none⟩) l.length (chgL l a) V (own_KdA (HQ.out.1.grow hB_) HA.out.1 (by have := HL.out; omega)) (by rw [chgL_len]; have := HL.out; omega)
          rw [chgL_len] at hfw
          refine hfw.mono ?_
          rintro e V2 ⟨v, rfl, ho, hb⟩
          rw [forwardL_len, chgL_len] at ho
          obtain ⟨A5, c5, rfl⟩ := own_slice ho
          exact ⟨_, rfl, ⟨cell_grow y0 hb, cell_grow y1 hb, cell_grow y2 hb, cell_grow y3 hb, cell_grow y4 hb, cell_grow y5 hb, cell_grow y6 hb, hB_.trans (hb.mono hB_.size)⟩, A5, c5, rfl, own_lower (Nat.zero_le _) ho⟩
        · rintro u V ⟨⟨y0, y1, y2, y3, y4, y5, y6, hB_⟩, A5, c5, rfl, ho5⟩
          have hwr := wrong_any A5 c5 (forwardL ho fi a.1 (chgL l a)) V (by rw [forwardL_len, chgL_len]; exact own_Kd ho5 (by rw [forwardL_len, chgL_len])) (by rw [forwardL_len, chgL_len]; have := HL.out; omega)
          rw [forwardL_len, chgL_len] at hwr
          have HWR := hid hwr
          clear ho5 hwr
          go_wp2_with fail
          refine HWR.out.mono ?_
          rintro e V2 ⟨rfl, hb⟩
          have hb6 : Below W4.heap.size W4 V2 := H5.out.1.trans ((hB_.trans (hb.mono hB_.size)).mono H5.out.1.size)
          have z0 := cell_grow y5 hb
          have z1 := cell_grow y6 hb
          have hst := HA.out.2
          unfold wStep at hst
          rw [← HP.out] at hst
          have hbd := wrongS_le (forwardL ho fi a.1 (chgL l a))
          rw [forwardL_len, chgL_len] at hbd
          generalize wrongS (forwardL ho fi a.1 (chgL l a)) = n at *
          have HST := hid hst
          have HB6 := hid hb6
          have HBD := hid hbd
          clear hb hB_ y0 y1 y2 y3 y4 y5 y6 H5 HQ HWR hst hb6 HP hbd
          have hL := HL.out
          have hL2 := HLT.out
          by_cases h0 : 0 ≤ n
          · by_cases h1 : mx (wrap64 (n - 1)) 0 < p.1
            · have HW2 := hid (show wrongK ho fi l (k + 1) = (mx (wrap64 (n - 1)) 0, a.1, a.2) by rw [HST.out, if_pos ⟨h0, h1⟩])
              have d0 : decide (0 ≤ n) = true := decide_eq_true h0
              have d1 : decide ((if wrap64 (n - 1) < 0 then 0 else wrap64 (n - 1)) < p.1) = true := decide_eq_true h1
              clear h0 h1 HST
              go_upto_region 11 with fail
              refine wp_flow [[], [0], [1, 0], [], [3], [], [5], [2, 1, 0], [4, 3, 7, 2, 1, 0], [6, 5, 8, 4, 3, 7, 2, 1, 0]] 10
                (fun V => V.cell? ⟨B5, 0, none⟩ = some (.int .u8 a.1) ∧ V.cell? ⟨B5, 1, none⟩ = some (.int .i64 a.2) ∧ Below V2.heap.size V2 V)
                { tmps := #[.agg #[.int .i64 ho.f0, .int .i64 ho.f1, .int .i64 fi.f0, .int .i64 fi.f1, .slice A l.length c], .pointer (some ⟨w.heap.size, 0, none⟩), .int .i64 (if wrap64 (n - 1) < 0 then 0 else wrap64 (n - 1)), .int .u8 a.1, .int .i64 a.2, .int .i64 0, .int .i64 0, .map (some Bm), undef, .pointer (some ⟨B5, 0, none⟩), .int .i64 n, .agg #[.int .i64 ho.f0, .int .i64 ho.f1, .int .i64 fi.f0, .int .i64 fi.f1, .slice A l.length c], .int .i64 0, .int .i64 0, .bool false, undef, .pointer (some ⟨w.heap.size, 4, none⟩), .slice A l.length c, .int .i64 l.length, .agg #[.int .i64 ho.f0, .int .i64 ho.f1, .int .i64 fi.f0, .int .i64 fi.f1, .slice A l.length c], .map (some Bm), .agg #[.int .i64 ho.f0, .int .i64 ho.f1, .int .i64 fi.f0, .int .i64 fi.f1, .slice A l.length c], .slice (some ⟨ga, 0, none⟩) KA.length gc, .int .i64 KA.length, .int .i64 k, .bool true, .pointer (some ⟨ga, k * 2, none⟩), .agg #[.int .u8 a.1, .int .i64 a.2], .agg #[.int .i64 ho.f0, .int .i64 ho.f1, .int .i64 fi.f0, .int .i64 fi.f1, .slice A l.length c], .agg #[.int .u8 a.1, .int .i64 a.2], .map (some Bm), .agg #[.int .u8 a.1, .int .i64 a.2], .slice (some ⟨g a, 0, none⟩) l.length l.length, .slice A5 (l.length + 1) c5, .int .i64 n, .int .i64 n, .bool true, .bool true, .int .i64 n, .int .i64 (wrap64 (n - 1)), .int .i64 (if wrap64 (n - 1) < 0 then 0 else wrap64 (n - 1)), .int .i64 p.1, .bool true, .bool true, .int .i64 n, .int .i64 (wrap64 (n - 1)), .int .i64 (if wrap64 (n - 1) < 0 then 0 else wrap64 (n - 1)), .pointer (some ⟨B5, 0, none⟩), .int .u8 a.1, .pointer (some ⟨B5, 1, none⟩), .int .i64 a.2, u51, undef, undef, undef], defers := [] }
                mixed (by kernel_rfl) rfl (Ahead.of [0, 1, 5, 6, 7, 8, 9, 10, 11, 12, 13, 14, 15, 16, 17, 18, 19, 20, 21, 22, 23, 24, 25, 26, 27, 28, 29, 30, 31, 32, 33, 34, 35, 36, 37, 38, 39, 40, 41, 42, 43, 51, 52, 53, 54] rfl rfl (by kernel_rfl) (by simp)) ?_ (AllFlow.ops rfl ?_) rfl ?_
              · exact ⟨z0, z1, (Below.refl _ _).drew⟩
              · refine ⟨?_, ?_, ?_, ?_, ?_, ?_, ?_, ?_, ?_, ?_, trivial⟩
                · exact .val 44 _ rfl rfl fun V ⟨z0, z1, hB_⟩ => by go_simp
                · exact .val 45 _ rfl rfl fun V ⟨z0, z1, hB_⟩ => by go_simp <;> exact wrap_i _
                · exact .val 46 _ rfl rfl fun V ⟨z0, z1, hB_⟩ => by go_simp
                · exact .val 47 _ rfl rfl fun V ⟨z0, z1, hB_⟩ => by go_simp
                · exact .val 48 _ rfl rfl fun V ⟨z0, z1, hB_⟩ => by go_simp
                · exact .val 49 _ rfl rfl fun V ⟨z0, z1, hB_⟩ => by go_simp
                · exact .val 50 _ rfl rfl fun V ⟨z0, z1, hB_⟩ => by go_simp
                · exact .val 2 _ rfl rfl fun V ⟨z0, z1, hB_⟩ => by go_simp
                · exact .val 3 _ rfl rfl fun V ⟨z0, z1, hB_⟩ => by go_simp
                · exact .val 4 _ rfl rfl fun V ⟨z0, z1, hB_⟩ => by go_simp
              rintro V3 ⟨z0, z1, hB_⟩
              have HB7 := hid (HB6.out.trans (hB_.mono HB6.out.size))
              clear hB_ HB6 z0 z1
              go_wp2
              go_roundw
              case rel => exact ⟨k + 1, by have := HLT.out; omega, by go_num, _, rfl, rfl, rfl, hid ⟨HW2.out.symm, HB7.out⟩⟩
              case measure => have := HLT.out; simp [intOf]; omega
            · have HW2 := hid (show wrongK ho fi l (k + 1) = p by rw [HST.out, if_neg (fun h => h1 h.2)])
              have d0 : decide (0 ≤ n) = true := decide_eq_true h0
              have d1 : decide ((if wrap64 (n - 1) < 0 then 0 else wrap64 (n - 1)) < p.1) = false := decide_eq_false h1
              clear h0 h1 HST
              go_wp2
              go_roundw
              case rel => exact ⟨k + 1, by have := HLT.out; omega, by go_num, p, rfl, rfl, rfl, hid ⟨HW2.out.symm, HB6.out⟩⟩
              case measure => have := HLT.out; simp [intOf]; omega
          · have HW2 := hid (show wrongK ho fi l (k + 1) = p by rw [HST.out, if_neg (fun h => h0 h.1)])
            have d0 : decide (0 ≤ n) = false := decide_eq_false h0
            clear h0 HST
            go_wp2
            go_roundw
            case rel => exact ⟨k + 1, by have := HLT.out; omega, by go_num, p, rfl, rfl, rfl, hid ⟨HW2.out.symm, HB6.out⟩⟩
            case measure => have := HLT.out; simp [intOf]; omega
      · obtain rfl : k = KA.length := by omega
        have HE := hid HX.out
        have HE := hid (show wrongV ho fi l = .tuple #[.int .i64 p.1, .int .u8 p.2.1, .int .i64 p.2.2, .int .i64 0] by unfold wrongV; rw [if_pos HV.out, HWA.out, ← HX.out.1])
        have HE2 := hid (H4.out.1.trans (HX.out.2.mono H4.out.1.size))
        clear HX
        go_wp2
        refine bodyPost_ret (v := .tuple #[.int .i64 p.1, .int .u8 p.2.1, .int .i64 p.2.2, .int .i64 0]) (by simp [results, Try.results24, go_sem]) rfl ⟨by rw [HE.out], HE2.out⟩
  · have HE := hid (show wrongV ho fi l = .tuple #[.int .i64 0, .int .u8 0, .int .i64 0, .int .i64 (bookErr ho fi l)] by unfold wrongV; rw [if_neg hv])
    have HB2 := hid hb2
    obtain ⟨er, her⟩ : ∃ er, bookErr ho fi l = er := ⟨_, rfl⟩
    rw [her] at hv HE
    rw [her]
    have d0 : (er == 0) = false := by simpa using hv
    clear her hv hb2 e2
    go_wp2
    refine bodyPost_ret (v := .tuple #[.int .i64 0, .int .u8 0, .int .i64 0, .int .i64 er]) (by simp [results, Try.results24, go_sem]) rfl ⟨by rw [HE.out], HB2.out⟩
end Go.Proofs.Ytbmkbokkmmdjdaa
end
