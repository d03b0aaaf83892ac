-- C3 C4 (wip/pack9.py)
import Derived.Shelf.Bits.Mul64
import Derived.Test.YtbmkbokkmmdjdaaGreatU16
section
namespace Go.Proofs.YtbmkbokkmmdjdaaGreat
open Go.RowKit Go.Proofs.YtbmkbokkmmdjdaaGreatW.PrintWords Go.Proofs.YtbmkbokkmmdjdaaGreatW.PrintLast Go.Proofs.YtbmkbokkmmdjdaaGreatW.PrintMore
open Q Go.Shelf
attribute [local go_sem] Oper.semAt_some wide_depth wide_fn
set_option linter.unusedVariables false
set_option linter.unusedSimpArgs false

def amountV (ho fi : S23) (l : List S93) (k h n : Int) : S23 × Int :=
  if bookErr ho fi l ≠ 0 then (z23, bookErr ho fi l)
  else if 2 < k ∨ betw n 0 l.length = false then (z23, 1)
  else if (k, h) ∉ accs (keptOf l).hs.length then (z23, 7)
  else if 0 ≤ wrongS (forwardL ho fi k (chgL l (k, h))) then (z23, 10)
  else ((bothL ho fi k (chgL l (k, h))).getD n.toNat z23, 0)
theorem betw_iff {a l h : Int} : betw a l h = true ↔ l ≤ a ∧ a ≤ h := by unfold betw; simp
theorem bothL_len (ho fi : S23) (k : Int) (by_ : List S23) : (bothL ho fi k by_).length = by_.length + 1 := by unfold bothL; rw [List.length_reverse, outK_len]
set_option maxRecDepth 100000 in
set_option maxHeartbeats 8000000 in
set_option pp.deepTerms true in
set_option pp.maxSteps 1000000 in
theorem Amount_any (ho fi : S23) (A : Option Addr) (c : Nat) (l : List S93) (k h n : Int) (w : World) (hr : Kd.C k93 w A l.length l) (hc : l.length ≤ c) :
    Calls Tryz.prog 10 #[.agg #[.int .i64 ho.f0, .int .i64 ho.f1, .int .i64 fi.f0, .int .i64 fi.f1, .slice A l.length c], .int .u8 k, .int .i64 h, .int .i64 n] w fun e w' => e = .returned (.tuple #[.agg #[.int .i64 (amountV ho fi l k h n).1.f0, .int .i64 (amountV ho fi l k h n).1.f1], .int .i64 (amountV ho fi l k h n).2]) ∧ Below w.heap.size w w' := by
  have hu := Tryz.underlying26
  have hu0 := Tryz.underlying23
  have hu1 := Tryz.underlying62
  have hu2 := Tryz.underlying60
  have hu3 := Tryz.underlying57
  have hbel := ((Below.refl w.heap.size w).alloc (Nat.le_refl _) (.cells #[.int .i64 ho.f0, .int .i64 ho.f1, .int .i64 fi.f0, .int .i64 fi.f1, .slice A l.length c] 26)).alloc (by simp) (.cells #[.int .i64 0, .int .i64 0] 23)
  have e0 := alloc_old (o' := (.cells #[.int .i64 0, .int .i64 0] 23)) (World.alloc_heap_new w (.cells #[.int .i64 ho.f0, .int .i64 ho.f1, .int .i64 fi.f0, .int .i64 fi.f1, .slice A l.length c] 26))
  have e1 := World.alloc_heap_new (w.alloc (.cells #[.int .i64 ho.f0, .int .i64 ho.f1, .int .i64 fi.f0, .int .i64 fi.f1, .slice A l.length c] 26)) (.cells #[.int .i64 0, .int .i64 0] 23)
  simp only [World.size_alloc] at e1
  have HR := hid hr
  go_enter Tryz.func10, Tryz.ntmps10
  go_wp2_with fail
  generalize ((w.alloc (.cells #[.int .i64 ho.f0, .int .i64 ho.f1, .int .i64 fi.f0, .int .i64 fi.f1, .slice A l.length c] 26)).alloc (.cells #[.int .i64 0, .int .i64 0] 23)) = W1 at *
  refine (Check_any ho fi A c l _ (Kd.C_below HR.out hbel) hc).mono ?_
  rintro e W2 ⟨rfl, hb⟩
  have hb2 := hbel.trans (hb.mono hbel.size)
  have e2 := heap_grow e0 hb
  have e3 := heap_grow e1 hb
  have HAV := hid (rfl : amountV ho fi l k h n = amountV ho fi l k h n)
  clear hbel hb e0 e1 hr
  have y0 := blkCell e2 0
  have y1 := blkCell e2 1
  have y2 := blkCell e2 2
  have y3 := blkCell e2 3
  have y4 := blkCell e2 4
  have q0 := blkCell e3 0
  have q1 := blkCell e3 1
  have f0 := blkFrozen e3 0
  have f1 := blkFrozen e3 1
  simp at y0 y1 y2 y3 y4 q0 q1
  by_cases hv : bookErr ho fi l = 0
  · have HV := hid hv
    have HL := hid (bookOk_of hv).len
    have H2 := hid (And.intro hb2 (And.intro e2 e3))
    rw [hv]
    clear hv hc hb2 e2 e3
    by_cases hk : 2 < k
    · have HE := hid (show amountV ho fi l k h n = (z23, 1) by unfold amountV; rw [if_neg (fun hh => hh HV.out), if_pos (Or.inl hk)])
      have d1 : decide (2 < k) = true := decide_eq_true hk
      clear hk
      go_wp2
      have hz := st2_same (And.intro H2.out.1 H2.out.2.2).2 (.int .i64 0) (.int .i64 0)
      have hb := st2_below (And.intro H2.out.1 H2.out.2.2).1 (show w.heap.size ≤ w.heap.size + 1 by omega) (.int .i64 0) (.int .i64 0)
      generalize ((W2.setCell ⟨w.heap.size + 1, 0, none⟩ (.int .i64 0)).setCell ⟨w.heap.size + 1, 1, none⟩ (.int .i64 0)) = VZ at *
      have r0 := blkCell hz 0
      have r1 := blkCell hz 1
      simp at r0 r1
      refine bodyPost_ret (v := .tuple #[.agg #[.int .i64 0, .int .i64 0], .int .i64 1]) (by simp [results, Tryz.results10, go_sem, r0, r1]) rfl ⟨by rw [HE.out]; rfl, hb⟩
    · have d1 : decide (2 < k) = false := decide_eq_false hk
      have HK := hid hk
      clear hk
      go_wp2_with fail
      refine (within_eq n 0 l.length _).mono ?_
      rintro e W3 ⟨rfl, hb⟩
      have H3 := hid (And.intro (H2.out.1.trans (hb.mono H2.out.1.size)) (And.intro (heap_grow H2.out.2.1 hb) (heap_grow H2.out.2.2 hb)))
      clear y0 y1 y2 y3 y4 q0 q1 f0 f1 hb H2
      cases hbw : betw n 0 l.length with
      | false =>
        have HE := hid (show amountV ho fi l k h n = (z23, 1) by unfold amountV; rw [if_neg (fun hh => hh HV.out), if_pos (Or.inr hbw)])
        have q0 := blkCell H3.out.2.2 0
        have q1 := blkCell H3.out.2.2 1
        have f0 := blkFrozen H3.out.2.2 0
        have f1 := blkFrozen H3.out.2.2 1
        simp at q0 q1
        clear hbw
        go_wp2
        have hz := st2_same (And.intro H3.out.1 H3.out.2.2).2 (.int .i64 0) (.int .i64 0)
        have hb := st2_below (And.intro H3.out.1 H3.out.2.2).1 (show w.heap.size ≤ w.heap.size + 1 by omega) (.int .i64 0) (.int .i64 0)
        generalize ((W3.setCell ⟨w.heap.size + 1, 0, none⟩ (.int .i64 0)).setCell ⟨w.heap.size + 1, 1, none⟩ (.int .i64 0)) = VZ at *
        have r0 := blkCell hz 0
        have r1 := blkCell hz 1
        simp at r0 r1
        refine bodyPost_ret (v := .tuple #[.agg #[.int .i64 0, .int .i64 0], .int .i64 1]) (by simp [results, Tryz.results10, go_sem, r0, r1]) rfl ⟨by rw [HE.out]; rfl, hb⟩
      | true =>
        have HBW := hid hbw
        clear hbw
        have y0 := blkCell H3.out.2.1 0
        have y1 := blkCell H3.out.2.1 1
        have y2 := blkCell H3.out.2.1 2
        have y3 := blkCell H3.out.2.1 3
        have y4 := blkCell H3.out.2.1 4
        simp at y0 y1 y2 y3 y4
        go_upto_region 7 with fail
        have hgr := (Below.refl W3.heap.size W3).alloc (Nat.le_refl _) (.cells #[.int .u8 k, .int .i64 h] 60)
        have hnew := World.alloc_heap_new W3 (.cells #[.int .u8 k, .int .i64 h] 60)
        have H4 := hid (And.intro (H3.out.1.trans (hgr.mono H3.out.1.size)) (And.intro (heap_grow H3.out.2.1 hgr) (And.intro (heap_grow H3.out.2.2 hgr) hnew)))
        clear y0 y1 y2 y3 y4 H3 hgr hnew
        generalize W3.alloc (.cells #[.int .u8 k, .int .i64 h] 60) = W4 at *
        generalize W3.heap.size = B4 at *
        have y0 := blkCell H4.out.2.1 0
        have y1 := blkCell H4.out.2.1 1
        have y2 := blkCell H4.out.2.1 2
        have y3 := blkCell H4.out.2.1 3
        have y4 := blkCell H4.out.2.1 4
        simp at y0 y1 y2 y3 y4
        have y5 := blkCell H4.out.2.2.2 0
        have y6 := blkCell H4.out.2.2.2 1
        simp at y5 y6
        obtain ⟨hn, hhn⟩ : ∃ hn, (keptOf l).hs.length = hn := ⟨_, rfl⟩
        have HHN := hid hhn
        have HN := hid (show hn ≤ 256 by have := kept_len l l.length (Nat.le_refl _); rw [List.take_length] at this; have := HL.out; omega)
        clear hhn
        refine wp_flow10 [[], [0], [], [1, 0, 2], [3, 1, 0, 2]] 1 3
          (fun V => V.cell? ⟨w.heap.size, 0, none⟩ = some (.int .i64 ho.f0) ∧ V.cell? ⟨w.heap.size, 1, none⟩ = some (.int .i64 ho.f1) ∧ V.cell? ⟨w.heap.size, 2, none⟩ = some (.int .i64 fi.f0) ∧ V.cell? ⟨w.heap.size, 3, none⟩ = some (.int .i64 fi.f1) ∧ V.cell? ⟨w.heap.size, 4, none⟩ = some (.slice A l.length c) ∧ V.cell? ⟨B4, 0, none⟩ = some (.int .u8 k) ∧ V.cell? ⟨B4, 1, none⟩ = some (.int .i64 h) ∧ Below W4.heap.size W4 V)
          (fun u V => (V.cell? ⟨w.heap.size, 0, none⟩ = some (.int .i64 ho.f0) ∧ V.cell? ⟨w.heap.size, 1, none⟩ = some (.int .i64 ho.f1) ∧ V.cell? ⟨w.heap.size, 2, none⟩ = some (.int .i64 fi.f0) ∧ V.cell? ⟨w.heap.size, 3, none⟩ = some (.int .i64 fi.f1) ∧ V.cell? ⟨w.heap.size, 4, none⟩ = some (.slice A l.length c) ∧ V.cell? ⟨B4, 0, none⟩ = some (.int .u8 k) ∧ V.cell? ⟨B4, 1, none⟩ = some (.int .i64 h) ∧ Below W4.heap.size W4 V) ∧ ∃ A5 c5, u = .slice A5 (accs hn).length c5 ∧ V.ownsRow 0 60 2 (.slice A5 (accs hn).length c5) (accs hn).length (aF (accs hn)))
          { tmps := #[.agg #[.int .i64 ho.f0, .int .i64 ho.f1, .int .i64 fi.f0, .int .i64 fi.f1, .slice A l.length c], .int .u8 k, .int .i64 h, .int .i64 n, .pointer (some ⟨w.heap.size, 0, none⟩), undef, undef, undef, .pointer (some ⟨w.heap.size + 1, 0, none⟩), .int .i64 0, .int .i64 0, .pointer (some ⟨B4, 0, none⟩), undef, .agg #[.int .i64 ho.f0, .int .i64 ho.f1, .int .i64 fi.f0, .int .i64 fi.f1, .slice A l.length c], .int .i64 0, .int .i64 0, .bool false, undef, undef, .int .u8 k, .bool false, .bool false, .int .i64 n, .pointer (some ⟨w.heap.size, 4, none⟩), .slice A l.length c, .int .i64 l.length, .bool true, .bool false, .bool false, undef, .int .u8 k, .int .i64 h, .agg #[.int .u8 k, .int .i64 h], .agg #[.int .i64 ho.f0, .int .i64 ho.f1, .int .i64 fi.f0, .int .i64 fi.f1, .slice A l.length c], undef, .agg #[.int .u8 k, .int .i64 h], undef, undef, undef, undef, undef, undef, undef, undef, undef, undef, undef, undef, undef, undef, undef, undef, undef, undef, undef, undef, undef], defers := [] }
          mixed (by kernel_rfl) rfl (by kernel_rfl) (Ahead.of3 33 36 rfl rfl (by kernel_rfl) rfl rfl) ?_ ?_ ?_ rfl ?_
        · exact ⟨y0, y1, y2, y3, y4, y5, y6, (Below.refl _ _).drew⟩
        · refine EachOp4.ops rfl ⟨?_, ?_, ?_, trivial⟩
          · exact .inr (.inr (LookOp.either (fun _ _ h => h.1) (LookOp.val 33 _ rfl rfl fun V ⟨y0, y1, y2, y3, y4, y5, y6, hB_⟩ => by go_simp)))
          · exact .inl rfl
          · exact .inr (.inr (LookOp.either (fun _ _ h => h.1) (LookOp.val 35 _ rfl rfl fun V ⟨y0, y1, y2, y3, y4, y5, y6, hB_⟩ => by go_simp)))
        · refine ⟨by rfl, fun V ⟨y0, y1, y2, y3, y4, y5, y6, hB_⟩ => ⟨27, #[.agg #[.int .i64 ho.f0, .int .i64 ho.f1, .int .i64 fi.f0, .int .i64 fi.f1, .slice A l.length c]], V, by go_simp, ?_⟩⟩
          refine (accounts_any ho fi A c l V (Kd.C_below HR.out (H4.out.1.trans (hB_.mono H4.out.1.size))) HV.out).mono ?_
          rintro e V2 ⟨va, rfl, hra, hb⟩
          rw [HHN.out] at hra
          obtain ⟨A5, c5, rfl⟩ := own_slice hra
          exact ⟨_, rfl, ⟨cell_grow y0 hb, cell_grow y1 hb, cell_grow y2 hb, cell_grow y3 hb, cell_grow y4 hb, cell_grow y5 hb, cell_grow y6 hb, hB_.trans (hb.mono hB_.size)⟩, A5, c5, rfl, own_lower (Nat.zero_le _) hra⟩
        · rintro u V ⟨⟨y0, y1, y2, y3, y4, y5, y6, hB_⟩, A5, c5, rfl, ho5⟩
          have HCN := hid (containsA_any (accs hn) (k, h) A5 c5 V ho5 (by rw [accs_len]; have := HN.out; omega))
          have H5 := hid hB_
          clear ho5 hB_
          go_wp2_with fail
          refine HCN.out.mono ?_
          rintro e W5 ⟨rfl, hb⟩
          have hb5 := H5.out.trans (hb.mono H5.out.size)
          have H6 := hid (And.intro (H4.out.1.trans (hb5.mono H4.out.1.size)) (And.intro (heap_grow H4.out.2.1 hb5) (And.intro (heap_grow H4.out.2.2.1 hb5) (heap_grow H4.out.2.2.2 hb5))))
          clear y0 y1 y2 y3 y4 y5 y6 hb hb5 H5 H4 HCN
          by_cases hm : (k, h) ∈ accs hn
          · have dm : decide ((k, h) ∈ accs hn) = true := decide_eq_true hm
            have HM := hid hm
            clear hm
            have y0 := blkCell H6.out.2.1 0
            have y1 := blkCell H6.out.2.1 1
            have y2 := blkCell H6.out.2.1 2
            have y3 := blkCell H6.out.2.1 3
            have y4 := blkCell H6.out.2.1 4
            simp at y0 y1 y2 y3 y4
            have y5 := blkCell H6.out.2.2.2 0
            have y6 := blkCell H6.out.2.2.2 1
            simp at y5 y6
            go_upto_region 9 with fail
            refine wp_flow10 [[], [0], [], [1, 0, 2], [3, 1, 0, 2]] 1 3
              (fun V => V.cell? ⟨w.heap.size, 0, none⟩ = some (.int .i64 ho.f0) ∧ V.cell? ⟨w.heap.size, 1, none⟩ = some (.int .i64 ho.f1) ∧ V.cell? ⟨w.heap.size, 2, none⟩ = some (.int .i64 fi.f0) ∧ V.cell? ⟨w.heap.size, 3, none⟩ = some (.int .i64 fi.f1) ∧ V.cell? ⟨w.heap.size, 4, none⟩ = some (.slice A l.length c) ∧ V.cell? ⟨B4, 0, none⟩ = some (.int .u8 k) ∧ V.cell? ⟨B4, 1, none⟩ = some (.int .i64 h) ∧ Below W5.heap.size W5 V)
              (fun u V => (V.cell? ⟨w.heap.size, 0, none⟩ = some (.int .i64 ho.f0) ∧ V.cell? ⟨w.heap.size, 1, none⟩ = some (.int .i64 ho.f1) ∧ V.cell? ⟨w.heap.size, 2, none⟩ = some (.int .i64 fi.f0) ∧ V.cell? ⟨w.heap.size, 3, none⟩ = some (.int .i64 fi.f1) ∧ V.cell? ⟨w.heap.size, 4, none⟩ = some (.slice A l.length c) ∧ V.cell? ⟨B4, 0, none⟩ = some (.int .u8 k) ∧ V.cell? ⟨B4, 1, none⟩ = some (.int .i64 h) ∧ Below W5.heap.size W5 V) ∧ ∃ Bm g, u = .map (some Bm) ∧ AI V 0 Bm l.length (accs hn) g (chgL l))
              { tmps := #[.agg #[.int .i64 ho.f0, .int .i64 ho.f1, .int .i64 fi.f0, .int .i64 fi.f1, .slice A l.length c], .int .u8 k, .int .i64 h, .int .i64 n, .pointer (some ⟨w.heap.size, 0, none⟩), undef, undef, undef, .pointer (some ⟨w.heap.size + 1, 0, none⟩), .int .i64 0, .int .i64 0, .pointer (some ⟨B4, 0, none⟩), undef, .agg #[.int .i64 ho.f0, .int .i64 ho.f1, .int .i64 fi.f0, .int .i64 fi.f1, .slice A l.length c], .int .i64 0, .int .i64 0, .bool false, undef, undef, .int .u8 k, .bool false, .bool false, .int .i64 n, .pointer (some ⟨w.heap.size, 4, none⟩), .slice A l.length c, .int .i64 l.length, .bool true, .bool false, .bool false, undef, .int .u8 k, .int .i64 h, .agg #[.int .u8 k, .int .i64 h], .agg #[.int .i64 ho.f0, .int .i64 ho.f1, .int .i64 fi.f0, .int .i64 fi.f1, .slice A l.length c], .slice A5 (accs hn).length c5, .agg #[.int .u8 k, .int .i64 h], .bool true, .bool false, undef, .agg #[.int .i64 ho.f0, .int .i64 ho.f1, .int .i64 fi.f0, .int .i64 fi.f1, .slice A l.length c], undef, .agg #[.int .u8 k, .int .i64 h], undef, undef, undef, undef, undef, undef, undef, undef, undef, undef, undef, undef, undef, undef, undef], defers := [] }
              mixed (by kernel_rfl) rfl (by kernel_rfl) (Ahead.of3 39 42 rfl rfl (by kernel_rfl) rfl rfl) ?_ ?_ ?_ rfl ?_
            · exact ⟨y0, y1, y2, y3, y4, y5, y6, (Below.refl _ _).drew⟩
            · refine EachOp4.ops rfl ⟨?_, ?_, ?_, trivial⟩
              · exact .inr (.inr (LookOp.either (fun _ _ h => h.1) (LookOp.val 39 _ rfl rfl fun V ⟨y0, y1, y2, y3, y4, y5, y6, hB_⟩ => by go_simp)))
              · exact .inl rfl
              · exact .inr (.inr (LookOp.either (fun _ _ h => h.1) (LookOp.val 41 _ rfl rfl fun V ⟨y0, y1, y2, y3, y4, y5, y6, hB_⟩ => by go_simp)))
            · refine ⟨by rfl, fun V ⟨y0, y1, y2, y3, y4, y5, y6, hB_⟩ => ⟨26, #[.agg #[.int .i64 ho.f0, .int .i64 ho.f1, .int .i64 fi.f0, .int .i64 fi.f1, .slice A l.length c]], V, by go_simp, ?_⟩⟩
              refine (changes_any ho fi A c l V (Kd.C_below HR.out (H6.out.1.trans (hB_.mono H6.out.1.size))) HV.out).mono ?_
              rintro e V2 ⟨Bm, g, rfl, hA, hb⟩
              rw [HHN.out] at hA
              exact ⟨_, rfl, ⟨cell_grow y0 hb, cell_grow y1 hb, cell_grow y2 hb, cell_grow y3 hb, cell_grow y4 hb, cell_grow y5 hb, cell_grow y6 hb, hB_.trans (hb.mono hB_.size)⟩, Bm, g, rfl, hA.lower (Nat.zero_le _)⟩
            · rintro u V ⟨⟨y0, y1, y2, y3, y4, y5, y6, hB_⟩, Bm, g, rfl, hA⟩
              have hlk := run_lookA hA.mp (hA.find HM.out)
              have H7 := hid (And.intro hB_ hA)
              clear hB_ hA
              have hfw := forward_any ho fi A c l k h (some ⟨g (k, h), 0, none⟩) l.length (chgL l (k, h)) V (own_KdA H7.out.2 HM.out (by have := HL.out; omega)) (by rw [chgL_len]; have := HL.out; omega)
              rw [chgL_len] at hfw
              have HFW := hid hfw
              clear hfw
              go_wp2_with fail
              refine HFW.out.mono ?_
              rintro e V2 ⟨v, rfl, hoo, hb⟩
              rw [forwardL_len, chgL_len] at hoo
              obtain ⟨A6, c6, rfl⟩ := own_slice hoo
              have hwr := wrong_any A6 c6 (forwardL ho fi k (chgL l (k, h))) V2 (by rw [forwardL_len, chgL_len]; exact own_Kd (own_lower (Nat.zero_le _) hoo) (by rw [forwardL_len, chgL_len])) (by rw [forwardL_len, chgL_len]; have := HL.out; omega)
              rw [forwardL_len, chgL_len] at hwr
              have HWR := hid hwr
              have H8 := hid (H7.out.1.trans (hb.mono H7.out.1.size))
              have H8b := hid hb
              clear hlk hoo hb hwr HFW
              go_wp2_with fail
              refine HWR.out.mono ?_
              rintro e V3 ⟨rfl, hb⟩
              have hb9 := H8.out.trans (hb.mono H8.out.size)
              have hA9 := H7.out.2.grow (H8b.out.trans (hb.mono H8b.out.size))
              have H9 := hid (And.intro (H6.out.1.trans (hb9.mono H6.out.1.size)) (And.intro (heap_grow H6.out.2.1 hb9) (And.intro (heap_grow H6.out.2.2.1 hb9) (And.intro (heap_grow H6.out.2.2.2 hb9) hA9))))
              clear y0 y1 y2 y3 y4 y5 y6 hb hb9 hA9 H8 H7 H6 HWR
              obtain ⟨nw, hnw⟩ : ∃ x, wrongS (forwardL ho fi k (chgL l (k, h))) = x := ⟨_, rfl⟩
              rw [hnw]
              by_cases h0 : 0 ≤ nw
              · have HE := hid (show amountV ho fi l k h n = (z23, 10) by unfold amountV; rw [if_neg (fun hh => hh HV.out), if_neg (by rintro (hh | hh); exact absurd hh (by have := HK.out; omega); rw [HBW.out] at hh; cases hh), if_neg (fun hh => hh (by rw [HHN.out]; exact HM.out)), if_pos (by rw [hnw]; exact h0)])
                have d0 : decide (0 ≤ nw) = true := decide_eq_true h0
                clear h0 hnw
                have q0 := blkCell H9.out.2.2.1 0
                have q1 := blkCell H9.out.2.2.1 1
                have f0 := blkFrozen H9.out.2.2.1 0
                have f1 := blkFrozen H9.out.2.2.1 1
                simp at q0 q1
                go_wp2
                have hz := st2_same (And.intro H9.out.1 H9.out.2.2.1).2 (.int .i64 0) (.int .i64 0)
                have hb := st2_below (And.intro H9.out.1 H9.out.2.2.1).1 (show w.heap.size ≤ w.heap.size + 1 by omega) (.int .i64 0) (.int .i64 0)
                generalize ((V3.setCell ⟨w.heap.size + 1, 0, none⟩ (.int .i64 0)).setCell ⟨w.heap.size + 1, 1, none⟩ (.int .i64 0)) = VZ at *
                have r0 := blkCell hz 0
                have r1 := blkCell hz 1
                simp at r0 r1
                refine bodyPost_ret (v := .tuple #[.agg #[.int .i64 0, .int .i64 0], .int .i64 10]) (by simp [results, Tryz.results10, go_sem, r0, r1]) rfl ⟨by rw [HE.out]; rfl, hb⟩
              · have HE := hid (show amountV ho fi l k h n = ((bothL ho fi k (chgL l (k, h))).getD n.toNat z23, 0) by unfold amountV; rw [if_neg (fun hh => hh HV.out), if_neg (by rintro (hh | hh); exact absurd hh (by have := HK.out; omega); rw [HBW.out] at hh; cases hh), if_neg (fun hh => hh (by rw [HHN.out]; exact HM.out)), if_neg (by rw [hnw]; exact h0)])
                have d0 : decide (0 ≤ nw) = false := decide_eq_false h0
                clear h0 hnw
                have y0 := blkCell H9.out.2.1 0
                have y1 := blkCell H9.out.2.1 1
                have y2 := blkCell H9.out.2.1 2
                have y3 := blkCell H9.out.2.1 3
                have y4 := blkCell H9.out.2.1 4
                simp at y0 y1 y2 y3 y4
                have y5 := blkCell H9.out.2.2.2.1 0
                have y6 := blkCell H9.out.2.2.2.1 1
                simp at y5 y6
                have hbo := both_any ho fi A c l k h (some ⟨g (k, h), 0, none⟩) l.length (chgL l (k, h)) V3 (own_KdA H9.out.2.2.2.2 HM.out (by have := HL.out; omega)) (by rw [chgL_len]; have := HL.out; omega)
                rw [chgL_len] at hbo
                have HBO := hid hbo
                clear hbo
                go_wp2_with fail
                refine HBO.out.mono ?_
                rintro e V4 ⟨v, rfl, hoo, hb⟩
                have hlen : (bothL ho fi k (chgL l (k, h))).length = l.length + 1 := by rw [bothL_len, chgL_len]
                rw [hlen] at hoo
                obtain ⟨g6, c6, rfl⟩ := ownsRow_succ hoo
                have hbt := HBW.out
                obtain ⟨m, rfl⟩ : ∃ m : Nat, n = m := ⟨n.toNat, by have := betw_iff.1 hbt; omega⟩
                have hml : m ≤ l.length := by have := betw_iff.1 hbt; omega
                have hm1 : m < l.length + 1 := by omega
                obtain ⟨p0, p1⟩ := row_cells2 hoo hlen hm1
                obtain ⟨sn, hsn⟩ : ∃ x, (bothL ho fi k (chgL l (k, h))).getD m z23 = x := ⟨_, rfl⟩
                rw [hsn] at p0 p1
                have HE' := hid (show amountV ho fi l k h m = (sn, 0) by rw [HE.out, ← hsn]; rfl)
                have H10 := hid (And.intro (H9.out.1.trans (hb.mono H9.out.1.size)) (heap_grow H9.out.2.2.1 hb))
                clear HE hbt hlen hoo hsn hb y0 y1 y2 y3 y4 y5 y6 H9 HBO
                have q0 := blkCell H10.out.2 0
                have q1 := blkCell H10.out.2 1
                have f0 := blkFrozen H10.out.2 0
                have f1 := blkFrozen H10.out.2 1
                simp at q0 q1
                go_wp2
                have hz := st2_same H10.out.2 (.int .i64 sn.f0) (.int .i64 sn.f1)
                have hb := st2_below H10.out.1 (show w.heap.size ≤ w.heap.size + 1 by omega) (.int .i64 sn.f0) (.int .i64 sn.f1)
                generalize ((V4.setCell ⟨w.heap.size + 1, 0, none⟩ (.int .i64 sn.f0)).setCell ⟨w.heap.size + 1, 1, none⟩ (.int .i64 sn.f1)) = VZ at *
                have r0 := blkCell hz 0
                have r1 := blkCell hz 1
                simp at r0 r1
                refine bodyPost_ret (v := .tuple #[.agg #[.int .i64 sn.f0, .int .i64 sn.f1], .int .i64 0]) (by simp [results, Tryz.results10, go_sem, r0, r1]) rfl ⟨by rw [HE'.out], hb⟩
          · have dm : decide ((k, h) ∈ accs hn) = false := decide_eq_false hm
            have HE := hid (show amountV ho fi l k h n = (z23, 7) by unfold amountV; rw [if_neg (fun hh => hh HV.out), if_neg (by rintro (hh | hh); exact absurd hh (by have := HK.out; omega); rw [HBW.out] at hh; cases hh), if_pos (by rw [HHN.out]; exact hm)])
            clear hm
            have q0 := blkCell H6.out.2.2.1 0
            have q1 := blkCell H6.out.2.2.1 1
            have f0 := blkFrozen H6.out.2.2.1 0
            have f1 := blkFrozen H6.out.2.2.1 1
            simp at q0 q1
            go_wp2
            have hz := st2_same (And.intro H6.out.1 H6.out.2.2.1).2 (.int .i64 0) (.int .i64 0)
            have hb := st2_below (And.intro H6.out.1 H6.out.2.2.1).1 (show w.heap.size ≤ w.heap.size + 1 by omega) (.int .i64 0) (.int .i64 0)
            generalize ((W5.setCell ⟨w.heap.size + 1, 0, none⟩ (.int .i64 0)).setCell ⟨w.heap.size + 1, 1, none⟩ (.int .i64 0)) = VZ at *
            have r0 := blkCell hz 0
            have r1 := blkCell hz 1
            simp at r0 r1
            refine bodyPost_ret (v := .tuple #[.agg #[.int .i64 0, .int .i64 0], .int .i64 7]) (by simp [results, Tryz.results10, go_sem, r0, r1]) rfl ⟨by rw [HE.out]; rfl, hb⟩
  · have HE := hid (show amountV ho fi l k h n = (z23, bookErr ho fi l) by unfold amountV; rw [if_pos hv])
    have HB2 := hid (And.intro hb2 e3)
    obtain ⟨er, her⟩ : ∃ er, bookErr ho fi l = er := ⟨_, rfl⟩
    rw [her] at hv HE
    rw [her]
    have d0 : (er == 0) = false := by simpa using hv
    clear her hv hb2 e2 e3
    go_wp2
    have hz := st2_same HB2.out.2 (.int .i64 0) (.int .i64 0)
    have hb := st2_below HB2.out.1 (show w.heap.size ≤ w.heap.size + 1 by omega) (.int .i64 0) (.int .i64 0)
    generalize ((W2.setCell ⟨w.heap.size + 1, 0, none⟩ (.int .i64 0)).setCell ⟨w.heap.size + 1, 1, none⟩ (.int .i64 0)) = VZ at *
    have r0 := blkCell hz 0
    have r1 := blkCell hz 1
    simp at r0 r1
    refine bodyPost_ret (v := .tuple #[.agg #[.int .i64 0, .int .i64 0], .int .i64 er]) (by simp [results, Tryz.results10, go_sem, r0, r1]) rfl ⟨by rw [HE.out]; rfl, hb⟩
end Go.Proofs.YtbmkbokkmmdjdaaGreat
end
section
namespace Go.Proofs.YtbmkbokkmmdjdaaGreat
open Go.RowKit Go.Proofs.YtbmkbokkmmdjdaaGreatW.PrintWords Go.Proofs.YtbmkbokkmmdjdaaGreatW.PrintLast Go.Proofs.YtbmkbokkmmdjdaaGreatW.PrintMore
open Q Go.Shelf
attribute [local go_sem] Oper.semAt_some wide_depth wide_fn
set_option linter.unusedVariables false
set_option linter.unusedSimpArgs false

def uN (a : Int) : Nat := (a % 18446744073709551616).toNat
theorem uN_lt (a : Int) : uN a < 18446744073709551616 := by unfold uN; omega
theorem uN_wrap (a : Int) : IntKind.u64.wrap a = ((uN a : Nat) : Int) := by rw [IntKind.wrap_u64]; unfold uN; omega
def mulP (a b : Int) : Int × Int := (((uN a * uN b / 18446744073709551616 : Nat) : Int), ((uN a * uN b % 18446744073709551616 : Nat) : Int))
def above (x y : Int × Int) : Bool := decide (y.1 < x.1) || (x.1 == y.1 && decide (y.2 < x.2))
set_option maxRecDepth 100000 in
set_option maxHeartbeats 2000000 in
theorem mul64_any (x y : Nat) (hx : x < 18446744073709551616) (hy : y < 18446744073709551616) (w : World) :
    Calls Tryz.prog 94 #[.int .u64 x, .int .u64 y] w fun e w' => e = .returned (.tuple #[.int .u64 ((x * y / 18446744073709551616 : Nat) : Int), .int .u64 ((x * y % 18446744073709551616 : Nat) : Int)]) ∧ Below w.heap.size w w' := by
  obtain ⟨bd, bt, bw, hhi⟩ := Lib.mul64_hi x y hx hy
  have ba := Lib.half_mul_le (a := x / 4294967296) (b := y / 4294967296) (by omega) (by omega)
  have bb := Lib.half_mul_le (a := x / 4294967296) (b := y % 4294967296) (by omega) (by omega)
  have bc := Lib.half_mul_le (a := x % 4294967296) (b := y / 4294967296) (by omega) (by omega)
  have ba' : x / 4294967296 * (y / 4294967296) < 18446744073709551616 := by omega
  have bb' : x / 4294967296 * (y % 4294967296) < 18446744073709551616 := by omega
  have bc' : x % 4294967296 * (y / 4294967296) < 18446744073709551616 := by omega
  have bh1 : x / 4294967296 * (y / 4294967296) + (x / 4294967296 * (y % 4294967296) + x % 4294967296 * (y % 4294967296) / 4294967296) / 4294967296 < 18446744073709551616 := by omega
  have bh : x / 4294967296 * (y / 4294967296) + (x / 4294967296 * (y % 4294967296) + x % 4294967296 * (y % 4294967296) / 4294967296) / 4294967296 + ((x / 4294967296 * (y % 4294967296) + x % 4294967296 * (y % 4294967296) / 4294967296) % 4294967296 + x % 4294967296 * (y / 4294967296)) / 4294967296 < 18446744073709551616 := by omega
  have HB := Below.refl w.heap.size w
  go_enter Tryz.func94, Tryz.ntmps94
  go_wp2
  simp only [Mul64.maskN x hx, Mul64.maskN y hy, Mul64.divN, Mul64.mulN, Mul64.addN, Mul64.wrapN _ bd, Mul64.wrapN _ bb', Mul64.wrapN _ bt, Mul64.maskN _ bt, Mul64.wrapN _ bc', Mul64.wrapN _ bw, Mul64.wrapN _ ba', Mul64.wrapN _ bh1, Mul64.wrapN _ bh, Mul64.wrapM (x * y)]
  rw [hhi]
  go_ret2
  exact ⟨rfl, HB⟩
set_option maxRecDepth 100000 in
set_option maxHeartbeats 2000000 in
theorem multiplied_any (a b : Int) (w : World) : Calls Tryz.prog 83 #[.int .i64 a, .int .i64 b] w fun e w' => e = .returned (.agg #[.int .u64 (mulP a b).1, .int .u64 (mulP a b).2]) ∧ Below w.heap.size w w' := by
  have hu := Tryz.underlying134
  have hbel := (Below.refl w.heap.size w).alloc (Nat.le_refl _) (.cells #[.int .u64 0, .int .u64 0] 134)
  have e0 := World.alloc_heap_new w (.cells #[.int .u64 0, .int .u64 0] 134)
  have ha := uN_wrap a
  have hb := uN_wrap b
  go_enter Tryz.func83, Tryz.ntmps83
  go_wp2_with fail

  generalize w.alloc (.cells #[.int .u64 0, .int .u64 0] 134) = W1 at *
  refine (mul64_any (uN a) (uN b) (uN_lt a) (uN_lt b) _).mono ?_
  rintro e W2 ⟨rfl, hb⟩
  have H2 := hid (And.intro (hbel.trans (hb.mono hbel.size)) (heap_grow e0 hb))
  have q0 := blkCell H2.out.2 0
  have q1 := blkCell H2.out.2 1
  have f0 := blkFrozen H2.out.2 0
  have f1 := blkFrozen H2.out.2 1
  simp at q0 q1
  have HM := hid (show mulP a b = (((uN a * uN b / 18446744073709551616 : Nat) : Int), ((uN a * uN b % 18446744073709551616 : Nat) : Int)) from rfl)
  generalize ((uN a * uN b / 18446744073709551616 : Nat) : Int) = m0 at *
  generalize ((uN a * uN b % 18446744073709551616 : Nat) : Int) = m1 at *
  clear hb hbel e0 ha
  go_wp2
  have hz := st2_same H2.out.2 (.int .u64 m0) (.int .u64 m1)
  have hb := st2_below H2.out.1 (Nat.le_refl _) (.int .u64 m0) (.int .u64 m1)
  generalize ((W2.setCell ⟨w.heap.size, 0, none⟩ (.int .u64 m0)).setCell ⟨w.heap.size, 1, none⟩ (.int .u64 m1)) = VZ at *
  have r0 := blkCell hz 0
  have r1 := blkCell hz 1
  simp at r0 r1
  refine bodyPost_ret (v := .agg #[.int .u64 m0, .int .u64 m1]) (by simp [results, Tryz.results83, go_sem, r0, r1]) rfl ⟨by rw [HM.out], hb⟩
set_option maxRecDepth 100000 in
set_option maxHeartbeats 2000000 in
theorem above_any (x y : Int × Int) (w : World) : Calls Tryz.prog 84 #[.agg #[.int .u64 x.1, .int .u64 x.2], .agg #[.int .u64 y.1, .int .u64 y.2]] w (RetBool (above x y) w) := by
  have hu := Tryz.underlying134
  have HB := hid (((Below.refl w.heap.size w).alloc (Nat.le_refl _) (.cells #[.int .u64 x.1, .int .u64 x.2] 134)).alloc (by simp) (.cells #[.int .u64 y.1, .int .u64 y.2] 134))
  have e0 := alloc_old (o' := (.cells #[.int .u64 y.1, .int .u64 y.2] 134)) (World.alloc_heap_new w (.cells #[.int .u64 x.1, .int .u64 x.2] 134))
  have e1 := World.alloc_heap_new (w.alloc (.cells #[.int .u64 x.1, .int .u64 x.2] 134)) (.cells #[.int .u64 y.1, .int .u64 y.2] 134)
  simp only [World.size_alloc] at e1
  have HV := hid (show above x y = (decide (y.1 < x.1) || (x.1 == y.1 && decide (y.2 < x.2))) from rfl)
  by_cases h0 : y.1 < x.1
  · have d0 : decide (y.1 < x.1) = true := decide_eq_true h0
    have HV := hid (show above x y = true by rw [HV.out, d0]; rfl)
    clear h0
    go_enter Tryz.func84, Tryz.ntmps84
    go_wp2
    go_ret
    exact ⟨by rw [HV.out]; rfl, HB.out⟩
  · have d0 : decide (y.1 < x.1) = false := decide_eq_false h0
    cases h1 : x.1 == y.1 with
    | true =>
      have HV := hid (show above x y = decide (y.2 < x.2) by rw [HV.out, d0, h1]; simp)
      clear h0
      go_enter Tryz.func84, Tryz.ntmps84
      go_wp2
      go_ret
      exact ⟨by rw [HV.out]; rfl, HB.out⟩
    | false =>
      have HV := hid (show above x y = false by rw [HV.out, d0, h1]; rfl)
      clear h0
      go_enter Tryz.func84, Tryz.ntmps84
      go_wp2
      go_ret
      exact ⟨by rw [HV.out]; rfl, HB.out⟩
def muchB (p : S88) (cn : Int) : Bool := if p.f0.f1 = 0 then decide (0 < cn) else above (mulP cn p.f0.f1) (mulP p.f1.f0 (wrap64 (1000 * p.f3.f0)))
set_option maxRecDepth 100000 in
set_option maxHeartbeats 2000000 in
set_option pp.deepTerms true in
set_option pp.maxSteps 1000000 in
theorem much_any (p : S88) (cn : Int) (w : World) : Calls Tryz.prog 44 #[.agg #[.int .i64 p.f0.f0, .int .i64 p.f0.f1, .int .i64 p.f1.f0, .int .i64 p.f1.f1, .int .i64 p.f2.f0, .int .i64 p.f2.f1, .int .i64 p.f3.f0, .int .i64 p.f3.f1, .int .i64 p.f4], .int .i64 cn] w (RetBool (muchB p cn) w) := by
  have hu := Tryz.underlying88
  have hu1 := Tryz.underlying23
  have hbel := (Below.refl w.heap.size w).alloc (Nat.le_refl _) (.cells #[.int .i64 p.f0.f0, .int .i64 p.f0.f1, .int .i64 p.f1.f0, .int .i64 p.f1.f1, .int .i64 p.f2.f0, .int .i64 p.f2.f1, .int .i64 p.f3.f0, .int .i64 p.f3.f1, .int .i64 p.f4] 88)
  have e0 := World.alloc_heap_new w (.cells #[.int .i64 p.f0.f0, .int .i64 p.f0.f1, .int .i64 p.f1.f0, .int .i64 p.f1.f1, .int .i64 p.f2.f0, .int .i64 p.f2.f1, .int .i64 p.f3.f0, .int .i64 p.f3.f1, .int .i64 p.f4] 88)
  cases h0 : p.f0.f1 == 0 with
  | true =>
    have HV := hid (show muchB p cn = decide (0 < cn) by unfold muchB; rw [if_pos (by simpa using h0)])
    have HB := hid hbel
    clear hbel e0
    go_enter Tryz.func44, Tryz.ntmps44
    go_wp2
    go_ret
    exact ⟨by rw [HV.out]; rfl, HB.out⟩
  | false =>
    have HV := hid (show muchB p cn = above (mulP cn p.f0.f1) (mulP p.f1.f0 (wrap64 (1000 * p.f3.f0))) by unfold muchB; rw [if_neg (by simpa using h0)])
    go_enter Tryz.func44, Tryz.ntmps44
    go_upto_region 3 with fail
    generalize w.alloc (.cells #[.int .i64 p.f0.f0, .int .i64 p.f0.f1, .int .i64 p.f1.f0, .int .i64 p.f1.f1, .int .i64 p.f2.f0, .int .i64 p.f2.f1, .int .i64 p.f3.f0, .int .i64 p.f3.f1, .int .i64 p.f4] 88) = W1 at *
    have y0 := blkCell e0 0
    have y1 := blkCell e0 1
    have y2 := blkCell e0 2
    have y3 := blkCell e0 3
    have y4 := blkCell e0 4
    have y5 := blkCell e0 5
    have y6 := blkCell e0 6
    have y7 := blkCell e0 7
    have y8 := blkCell e0 8
    simp at y0 y1 y2 y3 y4 y5 y6 y7 y8
    have HB := hid hbel
    clear hbel e0 h0
    refine wp_flow [[], [], [1], [2, 1], [0, 3, 2, 1], [], [5], [6, 5], [], [8], [9, 8], [10, 9, 8], [7, 6, 5, 11, 10, 9, 8, 4, 0, 3, 2, 1], [4, 0, 3, 2, 1, 12, 7, 6, 5, 11, 10, 9, 8], [13, 4, 0, 3, 2, 1, 12, 7, 6, 5, 11, 10, 9, 8]] 14
      (fun V => V.cell? ⟨w.heap.size, 0, none⟩ = some (.int .i64 p.f0.f0) ∧ V.cell? ⟨w.heap.size, 1, none⟩ = some (.int .i64 p.f0.f1) ∧ V.cell? ⟨w.heap.size, 2, none⟩ = some (.int .i64 p.f1.f0) ∧ V.cell? ⟨w.heap.size, 3, none⟩ = some (.int .i64 p.f1.f1) ∧ V.cell? ⟨w.heap.size, 4, none⟩ = some (.int .i64 p.f2.f0) ∧ V.cell? ⟨w.heap.size, 5, none⟩ = some (.int .i64 p.f2.f1) ∧ V.cell? ⟨w.heap.size, 6, none⟩ = some (.int .i64 p.f3.f0) ∧ V.cell? ⟨w.heap.size, 7, none⟩ = some (.int .i64 p.f3.f1) ∧ V.cell? ⟨w.heap.size, 8, none⟩ = some (.int .i64 p.f4) ∧ Below W1.heap.size W1 V)
      { tmps := #[.agg #[.int .i64 p.f0.f0, .int .i64 p.f0.f1, .int .i64 p.f1.f0, .int .i64 p.f1.f1, .int .i64 p.f2.f0, .int .i64 p.f2.f1, .int .i64 p.f3.f0, .int .i64 p.f3.f1, .int .i64 p.f4], .int .i64 cn, .pointer (some ⟨w.heap.size, 0, none⟩), undef, .bool false, .pointer (some ⟨w.heap.size, 0, none⟩), .pointer (some ⟨w.heap.size, 1, none⟩), .int .i64 p.f0.f1, .bool false, undef, undef, .int .i64 cn, .pointer (some ⟨w.heap.size, 0, none⟩), .pointer (some ⟨w.heap.size, 1, none⟩), .int .i64 p.f0.f1, .agg #[.int .u64 (mulP cn p.f0.f1).1, .int .u64 (mulP cn p.f0.f1).2], .pointer (some ⟨w.heap.size, 2, none⟩), .pointer (some ⟨w.heap.size, 2, none⟩), .int .i64 p.f1.f0, .pointer (some ⟨w.heap.size, 6, none⟩), .pointer (some ⟨w.heap.size, 6, none⟩), .int .i64 p.f3.f0, .int .i64 (wrap64 (1000 * p.f3.f0)), .agg #[.int .u64 (mulP p.f1.f0 (wrap64 (1000 * p.f3.f0))).1, .int .u64 (mulP p.f1.f0 (wrap64 (1000 * p.f3.f0))).2], .bool (above (mulP cn p.f0.f1) (mulP p.f1.f0 (wrap64 (1000 * p.f3.f0))))], defers := [] }
      mixed (by kernel_rfl) rfl (Ahead.of3 11 25 rfl rfl (by kernel_rfl) rfl rfl) ?_ (AllFlow.ops rfl ?_) rfl ?_
    · exact ⟨y0, y1, y2, y3, y4, y5, y6, y7, y8, (Below.refl _ _).drew⟩
    · refine ⟨?_, ?_, ?_, ?_, ?_, ?_, ?_, ?_, ?_, ?_, ?_, ?_, ?_, ?_, trivial⟩
      · exact .val 11 _ rfl rfl fun V ⟨y0, y1, y2, y3, y4, y5, y6, y7, y8, hB_⟩ => by go_simp
      · exact .val 12 _ rfl rfl fun V ⟨y0, y1, y2, y3, y4, y5, y6, y7, y8, hB_⟩ => by go_simp
      · exact .val 13 _ rfl rfl fun V ⟨y0, y1, y2, y3, y4, y5, y6, y7, y8, hB_⟩ => by go_simp
      · exact .val 14 _ rfl rfl fun V ⟨y0, y1, y2, y3, y4, y5, y6, y7, y8, hB_⟩ => by go_simp
      · refine .call 15 (.agg #[.int .u64 (mulP cn p.f0.f1).1, .int .u64 (mulP cn p.f0.f1).2]) 83 #[.int .i64 cn, .int .i64 p.f0.f1] rfl rfl (fun V ⟨y0, y1, y2, y3, y4, y5, y6, y7, y8, hB_⟩ => by go_simp) fun V ⟨y0, y1, y2, y3, y4, y5, y6, y7, y8, hB_⟩ => ?_
        refine (multiplied_any cn p.f0.f1 _).mono ?_
        rintro e w' ⟨rfl, hb⟩
        exact ⟨rfl, cell_grow y0 hb, cell_grow y1 hb, cell_grow y2 hb, cell_grow y3 hb, cell_grow y4 hb, cell_grow y5 hb, cell_grow y6 hb, cell_grow y7 hb, cell_grow y8 hb, hB_.trans (hb.mono hB_.size)⟩
      · exact .val 16 _ rfl rfl fun V ⟨y0, y1, y2, y3, y4, y5, y6, y7, y8, hB_⟩ => by go_simp
      · exact .val 17 _ rfl rfl fun V ⟨y0, y1, y2, y3, y4, y5, y6, y7, y8, hB_⟩ => by go_simp
      · exact .val 18 _ rfl rfl fun V ⟨y0, y1, y2, y3, y4, y5, y6, y7, y8, hB_⟩ => by go_simp
      · exact .val 19 _ rfl rfl fun V ⟨y0, y1, y2, y3, y4, y5, y6, y7, y8, hB_⟩ => by go_simp
      · exact .val 20 _ rfl rfl fun V ⟨y0, y1, y2, y3, y4, y5, y6, y7, y8, hB_⟩ => by go_simp
      · exact .val 21 _ rfl rfl fun V ⟨y0, y1, y2, y3, y4, y5, y6, y7, y8, hB_⟩ => by go_simp
      · exact .val 22 _ rfl rfl fun V ⟨y0, y1, y2, y3, y4, y5, y6, y7, y8, hB_⟩ => by go_simp <;> exact wrap_i _
      · refine .call 23 (.agg #[.int .u64 (mulP p.f1.f0 (wrap64 (1000 * p.f3.f0))).1, .int .u64 (mulP p.f1.f0 (wrap64 (1000 * p.f3.f0))).2]) 83 #[.int .i64 p.f1.f0, .int .i64 (wrap64 (1000 * p.f3.f0))] rfl rfl (fun V ⟨y0, y1, y2, y3, y4, y5, y6, y7, y8, hB_⟩ => by go_simp) fun V ⟨y0, y1, y2, y3, y4, y5, y6, y7, y8, hB_⟩ => ?_
        refine (multiplied_any p.f1.f0 (wrap64 (1000 * p.f3.f0)) _).mono ?_
        rintro e w' ⟨rfl, hb⟩
        exact ⟨rfl, cell_grow y0 hb, cell_grow y1 hb, cell_grow y2 hb, cell_grow y3 hb, cell_grow y4 hb, cell_grow y5 hb, cell_grow y6 hb, cell_grow y7 hb, cell_grow y8 hb, hB_.trans (hb.mono hB_.size)⟩
      · refine .call 24 (.bool (above (mulP cn p.f0.f1) (mulP p.f1.f0 (wrap64 (1000 * p.f3.f0))))) 84 #[.agg #[.int .u64 (mulP cn p.f0.f1).1, .int .u64 (mulP cn p.f0.f1).2], .agg #[.int .u64 (mulP p.f1.f0 (wrap64 (1000 * p.f3.f0))).1, .int .u64 (mulP p.f1.f0 (wrap64 (1000 * p.f3.f0))).2]] rfl rfl (fun V ⟨y0, y1, y2, y3, y4, y5, y6, y7, y8, hB_⟩ => by go_simp) fun V ⟨y0, y1, y2, y3, y4, y5, y6, y7, y8, hB_⟩ => ?_
        refine (above_any (mulP cn p.f0.f1) (mulP p.f1.f0 (wrap64 (1000 * p.f3.f0))) _).mono ?_
        rintro e w' ⟨rfl, hb⟩
        exact ⟨rfl, cell_grow y0 hb, cell_grow y1 hb, cell_grow y2 hb, cell_grow y3 hb, cell_grow y4 hb, cell_grow y5 hb, cell_grow y6 hb, cell_grow y7 hb, cell_grow y8 hb, hB_.trans (hb.mono hB_.size)⟩
    rintro V ⟨y0, y1, y2, y3, y4, y5, y6, y7, y8, hB_⟩
    have HB2 := hid (HB.out.trans (hB_.mono HB.out.size))
    clear hB_ HB y0 y1 y2 y3 y4 y5 y6 y7 y8
    go_wp2
    go_ret
    exact ⟨by rw [HV.out]; rfl, HB2.out⟩
end Go.Proofs.YtbmkbokkmmdjdaaGreat
end
