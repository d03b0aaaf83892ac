-- B7 C1 FX C2 (wip/pack9.py)
import Derived.Test.YtbmkbokkmmdjdaaGreatU15
section
namespace Go.Proofs.YtbmkbokkmmdjdaaGreat
open Go.RowKit Go.Proofs.YtbmkbokkmmdjdaaGreatW.PrintWords Go.Proofs.YtbmkbokkmmdjdaaGreatW.PrintLast Go.Proofs.YtbmkbokkmmdjdaaGreatW.PrintMore
open Q Go.Shelf
attribute [local go_sem] Oper.semAt_some wide_depth wide_fn
set_option linter.unusedVariables false
set_option linter.unusedSimpArgs false

def stepsK (th by_ : List S23) (n : Nat) : List (S23 × S23) := (List.range n).map fun j => (th.getD (by_.length - 1 - j) z23, by_.getD (by_.length - 1 - j) z23)
theorem stepsK_len (th by_ : List S23) (n : Nat) : (stepsK th by_ n).length = n := by simp [stepsK]
theorem stepsK_succ (th by_ : List S23) (n : Nat) : stepsK th by_ (n + 1) = stepsK th by_ n ++ [(th.getD (by_.length - 1 - n) z23, by_.getD (by_.length - 1 - n) z23)] := by
  unfold stepsK
  rw [List.range_succ, List.map_append]
  rfl
def bothL (ho fi : S23) (k : Int) (by_ : List S23) : List S23 := (outK bothS ((forwardL ho fi k by_).getD by_.length z23) (stepsK (forwardL ho fi k by_) by_ by_.length) by_.length).reverse
theorem info138' : ∃ i0, Tryz.prog.info? 122 = some i0 ∧ i0.zero = some (.agg #[.int .i64 0, .int .i64 0, .int .i64 0, .int .i64 0]) ∧ i0.size = 4 ∧ i0.bytes = 32 := info_parts (by kernel_rfl)
theorem forwardL_len (ho fi : S23) (k : Int) (by_ : List S23) : (forwardL ho fi k by_).length = by_.length + 1 := by unfold forwardL; exact outK_len _ _ _ _
set_option maxRecDepth 100000 in
set_option maxHeartbeats 4000000 in
set_option pp.deepTerms true in
set_option pp.maxSteps 1000000 in
theorem both_any (ho fi : S23) (A : Option Addr) (c : Nat) (l : List S93) (k h : Int) (A2 : Option Addr) (c2 : Nat) (by_ : List S23) (w : World) (hr2 : Kd.C k23 w A2 by_.length by_) (hl2 : by_.length ≤ 1000000) :
    Calls Tryz.prog 34 #[.agg #[.int .i64 ho.f0, .int .i64 ho.f1, .int .i64 fi.f0, .int .i64 fi.f1, .slice A l.length c], .agg #[.int .u8 k, .int .i64 h], .slice A2 by_.length c2] w (RetSpans (bothL ho fi k by_) w) := by
  have hu := Tryz.underlying23
  have hu1 := Tryz.underlying62
  have hu2 := Tryz.underlying122
  have hu3 := Tryz.underlying120
  have hbel := ((Below.refl w.heap.size w).alloc (Nat.le_refl _) (.cells #[.int .i64 ho.f0, .int .i64 ho.f1, .int .i64 fi.f0, .int .i64 fi.f1, .slice A l.length c] 26)).alloc (by simp) (.cells #[.int .u8 k, .int .i64 h] 60)
  go_enter Tryz.func34, Tryz.ntmps34
  go_wp2_with fail
  generalize ((w.alloc (.cells #[.int .i64 ho.f0, .int .i64 ho.f1, .int .i64 fi.f0, .int .i64 fi.f1, .slice A l.length c] 26)).alloc (.cells #[.int .u8 k, .int .i64 h] 60)) = W1 at *
  have HFW := hid (forward_any ho fi A c l k h A2 c2 by_ W1 (Kd.C_below hr2 hbel) hl2)
  have HR := hid hr2
  have H1 := hid hbel
  clear hr2 hbel
  refine HFW.out.mono ?_
  rintro e W2 ⟨v, rfl, ho2, hb⟩
  have hb2 := H1.out.trans (hb.mono H1.out.size)
  obtain ⟨th, hth⟩ : ∃ th, forwardL ho fi k by_ = th := ⟨_, rfl⟩
  have hthl : th.length = by_.length + 1 := by rw [← hth]; exact forwardL_len ho fi k by_
  rw [hth, hthl] at ho2
  obtain ⟨gt, ct, rfl⟩ := ownsRow_succ ho2
  have H2 := hid (And.intro hb2 (And.intro (own_lower H1.out.size ho2) (And.intro hth (And.intro hthl (ho2.lt gt rfl).2))))
  have HB := hid (Below.refl W2.heap.size W2)
  have HL := hid hl2
  clear hb hb2 ho2 hth hthl H1 HFW hl2
  go_wp2_with fail
  go_loopw [8, 9] (fun v8 v9 X => ∃ (n : Nat) (q : Int), (n : Int) + q + 1 = by_.length ∧ -1 ≤ q ∧ v9 = .int .i64 q ∧ ∃ A' m' c', v8 = .slice A' m' c' ∧ Hid (Below W2.heap.size W2 X ∧ X.ownsRow W2.heap.size 122 4 (.slice A' m' c') n (tF (stepsK th by_ n)))) (fun v8 v9 _ => (intOf v9 + 1).toNat)
  case atStart => exact ⟨0, (by_.length : Int) - 1, by omega, by omega, by rw [wrap64_id (by omega) (by have := HL.out; omega)], none, 0, 0, rfl, hid ⟨HB.out, by simp [World.ownsRow, stepsK, tF]⟩⟩
  case round =>
    obtain ⟨n, q, hnq, hq1, rfl, A', m', c', rfl, HX⟩ := hrel
    rename World => Wk
    by_cases hlt : 0 ≤ q
    · obtain ⟨i, rfl⟩ : ∃ i : Nat, q = i := ⟨q.toNat, by omega⟩
      have hil : i < by_.length := by omega
      obtain ⟨ti, hti⟩ : ∃ x, th.getD i z23 = x := ⟨_, rfl⟩
      obtain ⟨xi, hxi⟩ : ∃ x, by_.getD i z23 = x := ⟨_, rfl⟩
      have hcc := at_T23 (Kd.C_below HR.out (H2.out.1.trans (HX.out.1.mono H2.out.1.size))) i (by omega) (by omega)
      have hrd : rd_T23 by_ (i : Int) = xi := by rw [rd23' hil, ← hxi]; simp [List.getD, hil]
      rw [hrd] at hcc
      simp only [Int.toNat_natCast] at hcc
      obtain ⟨ad, rfl, y2, y3⟩ := hcc
      have c1 := row_cells2 (rings_set H2.out.2.1 HX.out.1) H2.out.2.2.2.1 (i := i) (by omega)
      rw [hti] at c1
      obtain ⟨y0, y1⟩ := c1
      clear hrd
      go_upto_region 6 with fail
      refine wp_flow3 [[], [], [], [1, 2], [3, 1, 2], [], [], [5, 6], [7, 5, 6], [4, 3, 1, 2, 8, 7, 5, 6], [9, 4, 3, 1, 2, 8, 7, 5, 6], [0, 10, 9, 4, 3, 1, 2, 8, 7, 5, 6], [11, 0, 10, 9, 4, 3, 1, 2, 8, 7, 5, 6]] 10
        (fun V => V.cell? ⟨gt, i * 2, none⟩ = some (.int .i64 ti.f0) ∧ V.cell? ⟨gt, i * 2 + 1, none⟩ = some (.int .i64 ti.f1) ∧ V.cell? (ad.add (i * 2)) = some (.int .i64 xi.f0) ∧ V.cell? ⟨(ad.add (i * 2)).block, (ad.add (i * 2)).off + 1, none⟩ = some (.int .i64 xi.f1) ∧ Below Wk.heap.size Wk V)
        (fun u V => (V.cell? ⟨gt, i * 2, none⟩ = some (.int .i64 ti.f0) ∧ V.cell? ⟨gt, i * 2 + 1, none⟩ = some (.int .i64 ti.f1) ∧ V.cell? (ad.add (i * 2)) = some (.int .i64 xi.f0) ∧ V.cell? ⟨(ad.add (i * 2)).block, (ad.add (i * 2)).off + 1, none⟩ = some (.int .i64 xi.f1) ∧ Below Wk.heap.size Wk V) ∧ ∃ V0, u = .slice (some ⟨V0.heap.size, 0, none⟩) 1 1 ∧ Below Wk.heap.size Wk V0 ∧ V = V0.alloc (.cells #[.int .i64 ti.f0, .int .i64 ti.f1, .int .i64 xi.f0, .int .i64 xi.f1] 122))
        { tmps := #[.agg #[.int .i64 ho.f0, .int .i64 ho.f1, .int .i64 fi.f0, .int .i64 fi.f1, .slice A l.length c], .agg #[.int .u8 k, .int .i64 h], .slice (some ad) by_.length c2, .pointer (some ⟨w.heap.size, 0, none⟩), .pointer (some ⟨w.heap.size + 1, 0, none⟩), undef, .slice none 0 0, .slice (some ⟨gt, 0, none⟩) (by_.length + 1) ct, .slice A' m' c', .int .i64 i, undef, .agg #[.int .i64 ho.f0, .int .i64 ho.f1, .int .i64 fi.f0, .int .i64 fi.f1, .slice A l.length c], .agg #[.int .u8 k, .int .i64 h], .slice (some ad) by_.length c2, .slice (some ⟨gt, 0, none⟩) (by_.length + 1) ct, .slice (some ad) by_.length c2, .int .i64 by_.length, .int .i64 (wrap64 (by_.length - 1)), .int .i64 i, .bool true, u20, u21, .slice A' m' c', .slice (some ⟨gt, 0, none⟩) (by_.length + 1) ct, .int .i64 i, .pointer (some ⟨gt, i * 2, none⟩), .agg #[.int .i64 ti.f0, .int .i64 ti.f1], .slice (some ad) by_.length c2, .int .i64 i, .pointer (some (ad.add (i * 2))), .agg #[.int .i64 xi.f0, .int .i64 xi.f1], .agg #[.int .i64 ti.f0, .int .i64 ti.f1, .int .i64 xi.f0, .int .i64 xi.f1], u32, u33, undef, undef, undef, undef, undef, undef, undef, undef, undef, undef], defers := [] }
        mixed (by kernel_rfl) rfl (Ahead.of3 22 32 rfl rfl (by kernel_rfl) rfl rfl) ?_ ?_ ?_ rfl ?_
      · exact ⟨y0, y1, y2, y3, (Below.refl _ _).drew⟩
      · refine EachOp3.ops rfl ⟨?_, ?_, ?_, ?_, ?_, ?_, ?_, ?_, ?_, ?_, trivial⟩
        · exact .inr (LookOp.either (fun _ _ h => h.1) (LookOp.val 22 _ rfl rfl fun V ⟨x0, x1, x2, x3, hB_⟩ => by go_simp))
        · exact .inr (LookOp.either (fun _ _ h => h.1) (LookOp.val 23 _ rfl rfl fun V ⟨x0, x1, x2, x3, hB_⟩ => by go_simp))
        · exact .inr (LookOp.either (fun _ _ h => h.1) (LookOp.val 24 _ rfl rfl fun V ⟨x0, x1, x2, x3, hB_⟩ => by go_simp))
        · exact .inr (LookOp.either (fun _ _ h => h.1) (LookOp.val 25 _ rfl rfl fun V ⟨x0, x1, x2, x3, hB_⟩ => by go_simp <;> omega))
        · exact .inr (LookOp.either (fun _ _ h => h.1) (LookOp.val 26 _ rfl rfl fun V ⟨x0, x1, x2, x3, hB_⟩ => by go_simp))
        · exact .inr (LookOp.either (fun _ _ h => h.1) (LookOp.val 27 _ rfl rfl fun V ⟨x0, x1, x2, x3, hB_⟩ => by go_simp))
        · exact .inr (LookOp.either (fun _ _ h => h.1) (LookOp.val 28 _ rfl rfl fun V ⟨x0, x1, x2, x3, hB_⟩ => by go_simp))
        · exact .inr (LookOp.either (fun _ _ h => h.1) (LookOp.val 29 _ rfl rfl fun V ⟨x0, x1, x2, x3, hB_⟩ => by go_simp <;> omega))
        · exact .inr (LookOp.either (fun _ _ h => h.1) (LookOp.val 30 _ rfl rfl fun V ⟨x0, x1, x2, x3, hB_⟩ => by go_simp))
        · exact .inr (LookOp.either (fun _ _ h => h.1) (LookOp.val 31 _ rfl rfl fun V ⟨x0, x1, x2, x3, hB_⟩ => by go_simp))
      · refine ⟨rfl, fun V ⟨x0, x1, x2, x3, hB_⟩ => ?_⟩
        have hgr := (Below.refl V.heap.size V).alloc (Nat.le_refl _) (.cells #[.int .i64 ti.f0, .int .i64 ti.f1, .int .i64 xi.f0, .int .i64 xi.f1] 122)
        exact ⟨.slice (some ⟨V.heap.size, 0, none⟩) 1 1, V.alloc (.cells #[.int .i64 ti.f0, .int .i64 ti.f1, .int .i64 xi.f0, .int .i64 xi.f1] 122), by go_simp, ⟨cell_grow x0 hgr, cell_grow x1 hgr, cell_growp x2 hgr, cell_grow x3 hgr, hB_.trans (hgr.mono hB_.size)⟩, V, rfl, hB_, rfl⟩
      · rintro u V1 ⟨⟨x0, x1, x2, x3, hB_⟩, V, rfl, hV, rfl⟩
        obtain ⟨hb0, ho0⟩ := HX.out
        have hgr := (Below.refl V.heap.size V).alloc (Nat.le_refl _) (.cells #[.int .i64 ti.f0, .int .i64 ti.f1, .int .i64 xi.f0, .int .i64 xi.f1] 122)
        have hnew := World.alloc_heap_new V (.cells #[.int .i64 ti.f0, .int .i64 ti.f1, .int .i64 xi.f0, .int .i64 xi.f1] 122)
        have hb6 := hb0.trans (hV.mono hb0.size)
        have hb7 := hb6.trans (hgr.mono hb6.size)
        have ho7 := rings_set (rings_set ho0 hV) hgr
        have hs7 : W2.heap.size ≤ (V.alloc (.cells #[.int .i64 ti.f0, .int .i64 ti.f1, .int .i64 xi.f0, .int .i64 xi.f1] 122)).heap.size := hb7.size
        have HT := hid (And.intro hti hxi)
        clear hti hxi hb0 ho0 HX x0 x1 x2 x3 hB_ hV hb6
        generalize V.alloc (.cells #[.int .i64 ti.f0, .int .i64 ti.f1, .int .i64 xi.f0, .int .i64 xi.f1] 122) = W7 at *
        generalize V.heap.size = B7 at *
        clear hgr
        obtain ⟨i0, hi, hz0, hz1, hz2⟩ := info138'
        refine wpList_append_own W7 rfl _ _ 120 rfl W2.heap.size 122 i0 _ 4 32 Tryz.underlying120 hi hz0 hz1 hz2 rfl (by decide) (.slice A' m' c') n (tF (stepsK th by_ n)) rfl ho7 ⟨B7, 0, none⟩ 1 1 (tC (ti, xi)) rfl rfl (row_cells hnew) (by simp [tC, Value.oneCell']) (by unfold maxLen; have := HL.out; omega) (by have := HL.out; omega) hs7 ?_
        intro v' W9 hown' hgrow _
        obtain ⟨g', cap', rfl⟩ := ownsRow_succ hown'
        have hb9 := hb7.grown hgrow hb7.size (fun j hj => by have := (ho7.lt j hj).1; omega)
        have HFF := hid (And.intro hb9 hown')
        clear hnew hb7 ho7 hs7 hi hz0 hz1 hz2 hown' hgrow hb9
        go_wp2
        go_roundw
        case rel => exact ⟨n + 1, (i : Int) - 1, by omega, by omega, by rw [wrap64_id (by omega) (by have := HL.out; omega)], _, _, _, rfl, hid ⟨HFF.out.1, by rw [stepsK_succ, show by_.length - 1 - n = i by omega, HT.out.1, HT.out.2, tF_snoc]; exact HFF.out.2⟩⟩
        case measure => simp only [intOf]; rw [wrap64_id (by omega) (by have := HL.out; omega)]; omega

    · obtain rfl : q = -1 := by omega
      obtain rfl : n = by_.length := by omega
      have c1 := row_cells2 (rings_set H2.out.2.1 HX.out.1) H2.out.2.2.2.1 (i := by_.length) (by omega)
      obtain ⟨y0, y1⟩ := c1
      obtain ⟨sn, hsn⟩ : ∃ x, th.getD by_.length z23 = x := ⟨_, rfl⟩
      rw [hsn] at y0 y1
      obtain ⟨hb0, ho0⟩ := HX.out
      obtain rfl : m' = by_.length := by
        rcases ho0.2 with ⟨h1, h2⟩ | ⟨g1, c1, u1, h1, _⟩
        · injection h1 with e1 e2 e3; omega
        · injection h1 with e1 e2 e3
      have HFO := hid (foldedT_any 73 #[] enters73 bothS sn A' c' (stepsK th by_ by_.length) Wk (by rw [stepsK_len]; exact own_lower (Nat.zero_le _) ho0) (by rw [stepsK_len]; exact HL.out) (fun s x W' _ => by
        have := both1_any s x W'
        simpa only [Array.append_empty] using this))
      have H3 := hid (And.intro (H2.out.1.trans (hb0.mono H2.out.1.size)) hsn)
      rw [stepsK_len] at HFO
      clear hb0 ho0 HX hsn
      go_wp2_with fail
      refine HFO.out.mono ?_
      rintro e W5 ⟨v, rfl, ho5, hb⟩
      rw [outK_len] at ho5
      obtain ⟨g5, c5, rfl⟩ := ownsRow_succ ho5
      have hlen : (outK bothS sn (stepsK th by_ by_.length) by_.length).length = by_.length + 1 := outK_len _ _ _ _
      have hbo : bothL ho fi k by_ = (outK bothS sn (stepsK th by_ by_.length) by_.length).reverse := by unfold bothL; rw [H2.out.2.2.1, H3.out.2]
      have hb5 := H3.out.1.trans (hb.mono H3.out.1.size)
      generalize outK bothS sn (stepsK th by_ by_.length) by_.length = out at *
      have HRV := hid (reverse_any w w.heap.size g5 c5 out W5 hb5 (by rw [hlen]; exact own_lower H3.out.1.size ho5) (by rw [hlen]; omega) (by rw [hlen]; have := HL.out; omega))
      rw [hlen] at HRV
      have H5 := hid (And.intro hbo hlen)
      clear ho5 hb hb5 hlen hbo HFO y0 y1
      go_wp2_with fail
      refine HRV.out.mono ?_
      rintro e W6 ⟨rfl, ho6, hb6⟩
      have H6 := hid (And.intro ho6 hb6)
      clear ho6 hb6 HRV
      go_wp2
      go_ret
      exact ⟨_, rfl, by rw [H5.out.1, List.length_reverse, H5.out.2]; exact H6.out.1, H6.out.2⟩
end Go.Proofs.YtbmkbokkmmdjdaaGreat
end
section
namespace Go.Proofs.YtbmkbokkmmdjdaaGreat
open Go.RowKit Go.Proofs.YtbmkbokkmmdjdaaGreatW.PrintWords Go.Proofs.YtbmkbokkmmdjdaaGreatW.PrintLast Go.Proofs.YtbmkbokkmmdjdaaGreatW.PrintMore
open Q Go.Shelf
attribute [local go_sem] Oper.semAt_some wide_depth wide_fn
set_option linter.unusedVariables false
set_option linter.unusedSimpArgs false

def wStep (ho fi : S23) (l : List S93) (p : Int × Int × Int) (a : Int × Int) : Int × Int × Int := if 0 ≤ wrongS (forwardL ho fi a.1 (chgL l a)) ∧ mx (wrap64 (wrongS (forwardL ho fi a.1 (chgL l a)) - 1)) 0 < p.1 then (mx (wrap64 (wrongS (forwardL ho fi a.1 (chgL l a)) - 1)) 0, a.1, a.2) else p
def wrongK (ho fi : S23) (l : List S93) (k : Nat) : Int × Int × Int := ((accs (keptOf l).hs.length).take k).foldl (wStep ho fi l) (l.length, 0, 0)
def wrongAll (ho fi : S23) (l : List S93) : Int × Int × Int := (accs (keptOf l).hs.length).foldl (wStep ho fi l) (l.length, 0, 0)
def wrongV (ho fi : S23) (l : List S93) : Value := if bookErr ho fi l = 0 then .tuple #[.int .i64 (wrongAll ho fi l).1, .int .u8 (wrongAll ho fi l).2.1, .int .i64 (wrongAll ho fi l).2.2, .int .i64 0] else .tuple #[.int .i64 0, .int .u8 0, .int .i64 0, .int .i64 (bookErr ho fi l)]
theorem chgL_len (l : List S93) (a : Int × Int) : (chgL l a).length = l.length := chgK_len _ _ _ _
theorem wrongS_le (l : List S23) : -1 ≤ wrongS l ∧ wrongS l ≤ l.length := by
  unfold wrongS idxS
  split
  · have := List.findIdx_le_length (p := isWrong) (xs := l); omega
  · omega
theorem own_Kd {W : World} {base : Nat} {A : Option Addr} {n c : Nat} {l : List S23} (h : W.ownsRow base 23 2 (.slice A n c) n (sF l)) (hn : l.length = n) : Kd.C k23 W A n l := by
  subst hn
  have hr : Reps (k23.K W) 2 l (sF l) := by
    have := reps_flat (R := k23.K W) (f := id) (g := sC) (sz := 2) (fun x => k23_mk W x) (fun x => rfl) l
    rwa [List.map_id] at this
  obtain ⟨A', c', he, _, hr'⟩ := OwnRow.reads (R := k23.K W) (e := 23) (size := 2) ⟨sF l, h, hr⟩
  injection he with e1 e2 e3
  subst e1
  exact hr'
theorem own_KdA {W : World} {base Bm n : Nat} {K : List (Int × Int)} {g : Int × Int → Nat} {L : Int × Int → List S23} (h : AI W base Bm n K g L) {a : Int × Int} (ha : a ∈ K) (hn : n ≤ 1000000) : Kd.C k23 W (some ⟨g a, 0, none⟩) (L a).length (L a) := by
  refine own_Kd (base := 0) (c := n) ⟨?_, .inr ⟨g a, n, _, rfl, Nat.zero_le _, h.bl a ha, ?_, ?_, ?_, ?_⟩⟩ rfl
  · rw [sF_len]
  · rw [h.ln a ha]; exact Nat.le_refl _
  · unfold maxLen; omega
  · rw [List.size_toArray, sF_len, h.ln a ha]
  · exact List.take_of_length_le (by rw [List.toList_toArray, sF_len]; exact Nat.le_refl _)
set_option maxRecDepth 100000 in
set_option maxHeartbeats 8000000 in
set_option pp.deepTerms true in
set_option pp.maxSteps 1000000 in
theorem Wrong_any (ho fi : S23) (A : Option Addr) (c : Nat) (l : List S93) (w : World) (hr : Kd.C k93 w A l.length l) (hc : l.length ≤ c) :
    Calls Tryz.prog 8 #[.agg #[.int .i64 ho.f0, .int .i64 ho.f1, .int .i64 fi.f0, .int .i64 fi.f1, .slice A l.length c]] w fun e w' => e = .returned (wrongV ho fi l) ∧ Below w.heap.size w w' := by
  have hu := Tryz.underlying26
  have hu2 := Tryz.underlying60
  have hu3 := Tryz.underlying57
  have hbel := (Below.refl w.heap.size w).alloc (Nat.le_refl _) (.cells #[.int .i64 ho.f0, .int .i64 ho.f1, .int .i64 fi.f0, .int .i64 fi.f1, .slice A l.length c] 26)
  have e0 := World.alloc_heap_new w (.cells #[.int .i64 ho.f0, .int .i64 ho.f1, .int .i64 fi.f0, .int .i64 fi.f1, .slice A l.length c] 26)
  have HR := hid hr
  go_enter Tryz.func8, Tryz.ntmps8
  go_wp2_with fail
  generalize w.alloc (.cells #[.int .i64 ho.f0, .int .i64 ho.f1, .int .i64 fi.f0, .int .i64 fi.f1, .slice A l.length c] 26) = W1 at *
  refine (Check_any ho fi A c l _ (Kd.C_below HR.out hbel) hc).mono ?_
  rintro e W2 ⟨rfl, hb⟩
  have hb2 := hbel.trans (hb.mono hbel.size)
  have e2 := heap_grow e0 hb
  clear hbel hb e0 hr
  by_cases hv : bookErr ho fi l = 0
  · have HV := hid hv
    have HL := hid (bookOk_of hv).len
    have H2 := hid (And.intro hb2 e2)
    rw [hv]
    clear hv hc
    have y0 := blkCell e2 0
    have y1 := blkCell e2 1
    have y2 := blkCell e2 2
    have y3 := blkCell e2 3
    have y4 := blkCell e2 4
    simp at y0 y1 y2 y3 y4
    clear hb2 e2
    go_wp2_with fail
    refine (changes_any ho fi A c l _ (Kd.C_below HR.out H2.out.1) HV.out).mono ?_
    rintro e W3 ⟨Bm, g, rfl, hA, hb⟩
    have hb3 := H2.out.1.trans (hb.mono H2.out.1.size)
    have e3 := heap_grow H2.out.2 hb
    clear y0 y1 y2 y3 y4
    have y0 := blkCell e3 0
    have y1 := blkCell e3 1
    have y2 := blkCell e3 2
    have y3 := blkCell e3 3
    have y4 := blkCell e3 4
    simp at y0 y1 y2 y3 y4
    have H3 := hid (And.intro hb3 (And.intro e3 hA))
    clear hb3 e3 hA hb H2
    go_wp2_with fail
    refine (accounts_any ho fi A c l _ (Kd.C_below HR.out H3.out.1) HV.out).mono ?_
    rintro e W4 ⟨va, rfl, hra, hb⟩
    obtain ⟨Aa, ca, rfl⟩ := own_slice hra
    have H4 := hid (And.intro (H3.out.1.trans (hb.mono H3.out.1.size)) (And.intro (heap_grow H3.out.2.1 hb) (And.intro (H3.out.2.2.grow hb) hra)))
    have HB := hid (Below.refl W4.heap.size W4)
    have HAL := hid (accs_len (keptOf l).hs.length)
    have HN := hid (show (keptOf l).hs.length ≤ 256 by have := kept_len l l.length (Nat.le_refl _); rw [List.take_length] at this; have := HL.out; omega)
    have HWA := hid (show wrongAll ho fi l = wrongK ho fi l (accs (keptOf l).hs.length).length by unfold wrongAll wrongK; rw [List.take_length])
    have HWK := hid (show ∀ k (hk : k < (accs (keptOf l).hs.length).length), wrongK ho fi l (k + 1) = wStep ho fi l (wrongK ho fi l k) (accs (keptOf l).hs.length)[k] by
      intro k hk
      unfold wrongK
      rw [List.take_succ_eq_append_getElem hk, List.foldl_append]
      rfl)
    have HW0 := hid (show wrongK ho fi l 0 = ((l.length : Int), 0, 0) from rfl)
    clear hra hb H3 y0 y1 y2 y3 y4
    obtain ⟨KA, hKA⟩ : ∃ KA, accs (keptOf l).hs.length = KA := ⟨_, rfl⟩
    rw [hKA] at H4 HAL HWA HWK
    have hbn : KA.length ≤ 258 := by have := HAL.out; have := HN.out; omega
    rw [hKA]
    clear hKA
    go_wp2
    go_loopw [2, 3, 4, 24] (fun v2 v3 v4 v24 X => ∃ k : Nat, k ≤ KA.length ∧ v24 = .int .i64 k ∧ ∃ p : Int × Int × Int, v2 = .int .i64 p.1 ∧ v3 = .int .u8 p.2.1 ∧ v4 = .int .i64 p.2.2 ∧ Hid (p = wrongK ho fi l k ∧ Below W4.heap.size W4 X)) (fun v2 v3 v4 v24 _ => KA.length - (intOf v24).toNat)
    case atStart => exact ⟨0, by omega, rfl, ((l.length : Int), 0, 0), rfl, rfl, rfl, hid ⟨HW0.out.symm, HB.out⟩⟩
    case round =>
      obtain ⟨k, hk, rfl, p, rfl, rfl, rfl, HX⟩ := hrel
      rename World => Wk
      by_cases hlt : k < KA.length
      · obtain ⟨a, hka⟩ : ∃ a, KA[k] = a := ⟨_, rfl⟩
        have hma : a ∈ KA := by rw [← hka]; exact List.getElem_mem hlt
        have hkd : KA.getD k (0, 0) = a := by rw [← hka]; simp [List.getD, hlt]
        have hwk := HWK.out k hlt
        rw [hka] at hwk
        have hra := rings_set H4.out.2.2.2 HX.out.2
        obtain ⟨ga, gc, hga⟩ : ∃ ga gc, Aa = some ⟨ga, 0, none⟩ ∧ gc = ca := by
          rcases hra.2 with ⟨h1, h2⟩ | ⟨g1, c1, u1, h1, _⟩
          · injection h1 with e1 e2 e3; omega
          · injection h1 with e1 e2 e3; exact ⟨g1, c1, e1, e3.symm⟩
        obtain ⟨rfl, rfl⟩ := hga
        have q0 : Wk.cell? ⟨ga, k * 2, none⟩ = some (.int .u8 a.1) := by
          have e := hra.cellAt (k * 2 + 0) (by omega)
          rw [aF_at hlt (by omega), hkd] at e; exact e
        have q1 : Wk.cell? ⟨ga, k * 2 + 1, none⟩ = some (.int .i64 a.2) := by
          have e := hra.cellAt (k * 2 + 1) (by omega)
          rw [aF_at hlt (by omega), hkd] at e; exact e
        have HA := hid (And.intro hma hwk)
        have HLT := hid hlt
        clear hra hka hkd hma hwk
        go_upto_region 9 with fail
        have hgr := (Below.refl Wk.heap.size Wk).alloc (Nat.le_refl _) (.cells #[.int .u8 a.1, .int .i64 a.2] 60)
        have hnew := World.alloc_heap_new Wk (.cells #[.int .u8 a.1, .int .i64 a.2] 60)
        have hb5 := HX.out.2.trans (hgr.mono HX.out.2.size)
        have HP := hid HX.out.1
        generalize Wk.alloc (.cells #[.int .u8 a.1, .int .i64 a.2] 60) = W5 at *
        generalize Wk.heap.size = B5 at *
        have hbx := heap_grow H4.out.2.1 hb5
        have hA5 := H4.out.2.2.1.grow hb5
        have y0 := blkCell hbx 0
        have y1 := blkCell hbx 1
        have y2 := blkCell hbx 2
        have y3 := blkCell hbx 3
        have y4 := blkCell hbx 4
        have y5 := blkCell hnew 0
        have y6 := blkCell hnew 1
        simp at y0 y1 y2 y3 y4 y5 y6
        have HQ := hid (And.intro hA5 (hA5.find HA.out.1))
        have H5 := hid (And.intro hb5 hnew)
        clear hgr hnew hb5 hbx hA5 q0 q1 HX
        refine wp_flow8 [[], [], [], [], [2, 3], [0, 1, 4, 2, 3], [5, 0, 1, 4, 2, 3], [6, 5, 0, 1, 4, 2, 3]] 5
          (fun V => V.cell? ⟨w.heap.size, 0, none⟩ = some (.int .i64 ho.f0) ∧ V.cell? ⟨w.heap.size, 1, none⟩ = some (.int .i64 ho.f1) ∧ V.cell? ⟨w.heap.size, 2, none⟩ = some (.int .i64 fi.f0) ∧ V.cell? ⟨w.heap.size, 3, none⟩ = some (.int .i64 fi.f1) ∧ V.cell? ⟨w.heap.size, 4, none⟩ = some (.slice A l.length c) ∧ V.cell? ⟨B5, 0, none⟩ = some (.int .u8 a.1) ∧ V.cell? ⟨B5, 1, none⟩ = some (.int .i64 a.2) ∧ Below W5.heap.size W5 V)
          (fun u V => (V.cell? ⟨w.heap.size, 0, none⟩ = some (.int .i64 ho.f0) ∧ V.cell? ⟨w.heap.size, 1, none⟩ = some (.int .i64 ho.f1) ∧ V.cell? ⟨w.heap.size, 2, none⟩ = some (.int .i64 fi.f0) ∧ V.cell? ⟨w.heap.size, 3, none⟩ = some (.int .i64 fi.f1) ∧ V.cell? ⟨w.heap.size, 4, none⟩ = some (.slice A l.length c) ∧ V.cell? ⟨B5, 0, none⟩ = some (.int .u8 a.1) ∧ V.cell? ⟨B5, 1, none⟩ = some (.int .i64 a.2) ∧ Below W5.heap.size W5 V) ∧ ∃ A5 c5, u = .slice A5 (l.length + 1) c5 ∧ V.ownsRow 0 23 2 (.slice A5 (l.length + 1) c5) (l.length + 1) (sF (forwardL ho fi a.1 (chgL l a))))
          { tmps := #[.agg #[.int .i64 ho.f0, .int .i64 ho.f1, .int .i64 fi.f0, .int .i64 fi.f1, .slice A l.length c], .pointer (some ⟨w.heap.size, 0, none⟩), .int .i64 p.1, .int .u8 p.2.1, .int .i64 p.2.2, .int .i64 0, .int .i64 0, .map (some Bm), undef, .pointer (some ⟨B5, 0, none⟩), u10, .agg #[.int .i64 ho.f0, .int .i64 ho.f1, .int .i64 fi.f0, .int .i64 fi.f1, .slice A l.length c], .int .i64 0, .int .i64 0, .bool false, undef, .pointer (some ⟨w.heap.size, 4, none⟩), .slice A l.length c, .int .i64 l.length, .agg #[.int .i64 ho.f0, .int .i64 ho.f1, .int .i64 fi.f0, .int .i64 fi.f1, .slice A l.length c], .map (some Bm), .agg #[.int .i64 ho.f0, .int .i64 ho.f1, .int .i64 fi.f0, .int .i64 fi.f1, .slice A l.length c], .slice (some ⟨ga, 0, none⟩) KA.length gc, .int .i64 KA.length, .int .i64 k, .bool true, .pointer (some ⟨ga, k * 2, none⟩), .agg #[.int .u8 a.1, .int .i64 a.2], .agg #[.int .i64 ho.f0, .int .i64 ho.f1, .int .i64 fi.f0, .int .i64 fi.f1, .slice A l.length c], .agg #[.int .u8 a.1, .int .i64 a.2], .map (some Bm), .agg #[.int .u8 a.1, .int .i64 a.2], .slice (some ⟨g a, 0, none⟩) l.length l.length, u33, u34, u35, u36, u37, u38, u39, u40, u41, u42, u43, u44, u45, u46, u47, u48, u49, u50, u51, undef, undef, undef], defers := [] }
          mixed (by kernel_rfl) rfl (Ahead.of3 28 33 rfl rfl (by kernel_rfl) rfl rfl) ?_ ?_ ?_ rfl ?_
        · exact ⟨y0, y1, y2, y3, y4, y5, y6, (Below.refl _ _).drew⟩
        · refine EachOp3.ops rfl ⟨?_, ?_, ?_, ?_, ?_, trivial⟩
          · exact .inr (LookOp.either (fun _ _ h => h.1) (LookOp.val 28 _ rfl rfl fun V ⟨y0, y1, y2, y3, y4, y5, y6, hB_⟩ => by go_simp))
          · exact .inr (LookOp.either (fun _ _ h => h.1) (LookOp.val 29 _ rfl rfl fun V ⟨y0, y1, y2, y3, y4, y5, y6, hB_⟩ => by go_simp))
          · exact .inr (LookOp.either (fun _ _ h => h.1) (LookOp.val 30 _ rfl rfl fun V ⟨y0, y1, y2, y3, y4, y5, y6, hB_⟩ => by go_simp))
          · exact .inr (LookOp.either (fun _ _ h => h.1) (LookOp.val 31 _ rfl rfl fun V ⟨y0, y1, y2, y3, y4, y5, y6, hB_⟩ => by go_simp))
          · exact .inr (LookOp.either (fun _ _ h => h.1) (LookOp.val 32 _ rfl rfl fun V ⟨y0, y1, y2, y3, y4, y5, y6, hB_⟩ => by have hlk := run_lookA (HQ.out.1.grow hB_).mp HQ.out.2; go_simp))
        · refine ⟨by rfl, fun V ⟨y0, y1, y2, y3, y4, y5, y6, hB_⟩ => ⟨29, #[.agg #[.int .i64 ho.f0, .int .i64 ho.f1, .int .i64 fi.f0, .int .i64 fi.f1, .slice A l.length c], .agg #[.int .u8 a.1, .int .i64 a.2], .slice (some ⟨g a, 0, none⟩) l.length l.length], V, by go_simp, ?_⟩⟩
          have hfw := forward_any ho fi A c l a.1 a.2 (some ⟨g a, 0, none⟩) l.length (chgL l a) V (own_KdA (HQ.out.1.grow hB_) HA.out.1 (by have := HL.out; omega)) (by rw [chgL_len]; have := HL.out; omega)
          rw [chgL_len] at hfw
          refine hfw.mono ?_
          rintro e V2 ⟨v, rfl, ho, hb⟩
          rw [forwardL_len, chgL_len] at ho
          obtain ⟨A5, c5, rfl⟩ := own_slice ho
          exact ⟨_, rfl, ⟨cell_grow y0 hb, cell_grow y1 hb, cell_grow y2 hb, cell_grow y3 hb, cell_grow y4 hb, cell_grow y5 hb, cell_grow y6 hb, hB_.trans (hb.mono hB_.size)⟩, A5, c5, rfl, own_lower (Nat.zero_le _) ho⟩
        · rintro u V ⟨⟨y0, y1, y2, y3, y4, y5, y6, hB_⟩, A5, c5, rfl, ho5⟩
          have hwr := wrong_any A5 c5 (forwardL ho fi a.1 (chgL l a)) V (by rw [forwardL_len, chgL_len]; exact own_Kd ho5 (by rw [forwardL_len, chgL_len])) (by rw [forwardL_len, chgL_len]; have := HL.out; omega)
          rw [forwardL_len, chgL_len] at hwr
          have HWR := hid hwr
          clear ho5 hwr
          go_wp2_with fail
          refine HWR.out.mono ?_
          rintro e V2 ⟨rfl, hb⟩
          have hb6 : Below W4.heap.size W4 V2 := H5.out.1.trans ((hB_.trans (hb.mono hB_.size)).mono H5.out.1.size)
          have z0 := cell_grow y5 hb
          have z1 := cell_grow y6 hb
          have hst := HA.out.2
          unfold wStep at hst
          rw [← HP.out] at hst
          have hbd := wrongS_le (forwardL ho fi a.1 (chgL l a))
          rw [forwardL_len, chgL_len] at hbd
          generalize wrongS (forwardL ho fi a.1 (chgL l a)) = n at *
          have HST := hid hst
          have HB6 := hid hb6
          have HBD := hid hbd
          clear hb hB_ y0 y1 y2 y3 y4 y5 y6 H5 HQ HWR hst hb6 HP hbd
          have hL := HL.out
          have hL2 := HLT.out
          by_cases h0 : 0 ≤ n
          · by_cases h1 : mx (wrap64 (n - 1)) 0 < p.1
            · have HW2 := hid (show wrongK ho fi l (k + 1) = (mx (wrap64 (n - 1)) 0, a.1, a.2) by rw [HST.out, if_pos ⟨h0, h1⟩])
              have d0 : decide (0 ≤ n) = true := decide_eq_true h0
              have d1 : decide ((if wrap64 (n - 1) < 0 then 0 else wrap64 (n - 1)) < p.1) = true := decide_eq_true h1
              clear h0 h1 HST
              go_upto_region 11 with fail
              refine wp_flow [[], [0], [1, 0], [], [3], [], [5], [2, 1, 0], [4, 3, 7, 2, 1, 0], [6, 5, 8, 4, 3, 7, 2, 1, 0]] 10
                (fun V => V.cell? ⟨B5, 0, none⟩ = some (.int .u8 a.1) ∧ V.cell? ⟨B5, 1, none⟩ = some (.int .i64 a.2) ∧ Below V2.heap.size V2 V)
                { tmps := #[.agg #[.int .i64 ho.f0, .int .i64 ho.f1, .int .i64 fi.f0, .int .i64 fi.f1, .slice A l.length c], .pointer (some ⟨w.heap.size, 0, none⟩), .int .i64 (if wrap64 (n - 1) < 0 then 0 else wrap64 (n - 1)), .int .u8 a.1, .int .i64 a.2, .int .i64 0, .int .i64 0, .map (some Bm), undef, .pointer (some ⟨B5, 0, none⟩), .int .i64 n, .agg #[.int .i64 ho.f0, .int .i64 ho.f1, .int .i64 fi.f0, .int .i64 fi.f1, .slice A l.length c], .int .i64 0, .int .i64 0, .bool false, undef, .pointer (some ⟨w.heap.size, 4, none⟩), .slice A l.length c, .int .i64 l.length, .agg #[.int .i64 ho.f0, .int .i64 ho.f1, .int .i64 fi.f0, .int .i64 fi.f1, .slice A l.length c], .map (some Bm), .agg #[.int .i64 ho.f0, .int .i64 ho.f1, .int .i64 fi.f0, .int .i64 fi.f1, .slice A l.length c], .slice (some ⟨ga, 0, none⟩) KA.length gc, .int .i64 KA.length, .int .i64 k, .bool true, .pointer (some ⟨ga, k * 2, none⟩), .agg #[.int .u8 a.1, .int .i64 a.2], .agg #[.int .i64 ho.f0, .int .i64 ho.f1, .int .i64 fi.f0, .int .i64 fi.f1, .slice A l.length c], .agg #[.int .u8 a.1, .int .i64 a.2], .map (some Bm), .agg #[.int .u8 a.1, .int .i64 a.2], .slice (some ⟨g a, 0, none⟩) l.length l.length, .slice A5 (l.length + 1) c5, .int .i64 n, .int .i64 n, .bool true, .bool true, .int .i64 n, .int .i64 (wrap64 (n - 1)), .int .i64 (if wrap64 (n - 1) < 0 then 0 else wrap64 (n - 1)), .int .i64 p.1, .bool true, .bool true, .int .i64 n, .int .i64 (wrap64 (n - 1)), .int .i64 (if wrap64 (n - 1) < 0 then 0 else wrap64 (n - 1)), .pointer (some ⟨B5, 0, none⟩), .int .u8 a.1, .pointer (some ⟨B5, 1, none⟩), .int .i64 a.2, u51, undef, undef, undef], defers := [] }
                mixed (by kernel_rfl) rfl (Ahead.of [0, 1, 5, 6, 7, 8, 9, 10, 11, 12, 13, 14, 15, 16, 17, 18, 19, 20, 21, 22, 23, 24, 25, 26, 27, 28, 29, 30, 31, 32, 33, 34, 35, 36, 37, 38, 39, 40, 41, 42, 43, 51, 52, 53, 54] rfl rfl (by kernel_rfl) (by simp)) ?_ (AllFlow.ops rfl ?_) rfl ?_
              · exact ⟨z0, z1, (Below.refl _ _).drew⟩
              · refine ⟨?_, ?_, ?_, ?_, ?_, ?_, ?_, ?_, ?_, ?_, trivial⟩
                · exact .val 44 _ rfl rfl fun V ⟨z0, z1, hB_⟩ => by go_simp
                · exact .val 45 _ rfl rfl fun V ⟨z0, z1, hB_⟩ => by go_simp <;> exact wrap_i _
                · exact .val 46 _ rfl rfl fun V ⟨z0, z1, hB_⟩ => by go_simp
                · exact .val 47 _ rfl rfl fun V ⟨z0, z1, hB_⟩ => by go_simp
                · exact .val 48 _ rfl rfl fun V ⟨z0, z1, hB_⟩ => by go_simp
                · exact .val 49 _ rfl rfl fun V ⟨z0, z1, hB_⟩ => by go_simp
                · exact .val 50 _ rfl rfl fun V ⟨z0, z1, hB_⟩ => by go_simp
                · exact .val 2 _ rfl rfl fun V ⟨z0, z1, hB_⟩ => by go_simp
                · exact .val 3 _ rfl rfl fun V ⟨z0, z1, hB_⟩ => by go_simp
                · exact .val 4 _ rfl rfl fun V ⟨z0, z1, hB_⟩ => by go_simp
              rintro V3 ⟨z0, z1, hB_⟩
              have HB7 := hid (HB6.out.trans (hB_.mono HB6.out.size))
              clear hB_ HB6 z0 z1
              go_wp2
              go_roundw
              case rel => exact ⟨k + 1, by have := HLT.out; omega, by go_num, _, rfl, rfl, rfl, hid ⟨HW2.out.symm, HB7.out⟩⟩
              case measure => have := HLT.out; simp [intOf]; omega
            · have HW2 := hid (show wrongK ho fi l (k + 1) = p by rw [HST.out, if_neg (fun h => h1 h.2)])
              have d0 : decide (0 ≤ n) = true := decide_eq_true h0
              have d1 : decide ((if wrap64 (n - 1) < 0 then 0 else wrap64 (n - 1)) < p.1) = false := decide_eq_false h1
              clear h0 h1 HST
              go_wp2
              go_roundw
              case rel => exact ⟨k + 1, by have := HLT.out; omega, by go_num, p, rfl, rfl, rfl, hid ⟨HW2.out.symm, HB6.out⟩⟩
              case measure => have := HLT.out; simp [intOf]; omega
          · have HW2 := hid (show wrongK ho fi l (k + 1) = p by rw [HST.out, if_neg (fun h => h0 h.1)])
            have d0 : decide (0 ≤ n) = false := decide_eq_false h0
            clear h0 HST
            go_wp2
            go_roundw
            case rel => exact ⟨k + 1, by have := HLT.out; omega, by go_num, p, rfl, rfl, rfl, hid ⟨HW2.out.symm, HB6.out⟩⟩
            case measure => have := HLT.out; simp [intOf]; omega
      · obtain rfl : k = KA.length := by omega
        have HE := hid HX.out
        have HE := hid (show wrongV ho fi l = .tuple #[.int .i64 p.1, .int .u8 p.2.1, .int .i64 p.2.2, .int .i64 0] by unfold wrongV; rw [if_pos HV.out, HWA.out, ← HX.out.1])
        have HE2 := hid (H4.out.1.trans (HX.out.2.mono H4.out.1.size))
        clear HX
        go_wp2
        refine bodyPost_ret (v := .tuple #[.int .i64 p.1, .int .u8 p.2.1, .int .i64 p.2.2, .int .i64 0]) (by simp [results, Tryz.results8, go_sem]) rfl ⟨by rw [HE.out], HE2.out⟩
  · have HE := hid (show wrongV ho fi l = .tuple #[.int .i64 0, .int .u8 0, .int .i64 0, .int .i64 (bookErr ho fi l)] by unfold wrongV; rw [if_neg hv])
    have HB2 := hid hb2
    obtain ⟨er, her⟩ : ∃ er, bookErr ho fi l = er := ⟨_, rfl⟩
    rw [her] at hv HE
    rw [her]
    have d0 : (er == 0) = false := by simpa using hv
    clear her hv hb2 e2
    go_wp2
    refine bodyPost_ret (v := .tuple #[.int .i64 0, .int .u8 0, .int .i64 0, .int .i64 er]) (by simp [results, Tryz.results8, go_sem]) rfl ⟨by rw [HE.out], HB2.out⟩
end Go.Proofs.YtbmkbokkmmdjdaaGreat
end
section
namespace Go.Proofs.YtbmkbokkmmdjdaaGreat
open Go.RowKit Go.Proofs.YtbmkbokkmmdjdaaGreatW.PrintWords Go.Proofs.YtbmkbokkmmdjdaaGreatW.PrintLast Go.Proofs.YtbmkbokkmmdjdaaGreatW.PrintMore
open Q Go.Shelf
attribute [local go_sem] Oper.semAt_some wide_depth wide_fn
set_option linter.unusedVariables false
set_option linter.unusedSimpArgs false
section
variable {op : Nat → (Act → World → Prop) → Act → World → Prop} {ops : Array Oper} {anc : List (List Nat)} {q : Nat} {Qn : Act → World → Prop} {S : World → Prop} {T : Act}
theorem any_flow4 {e : Nat} {oe : Oper} {S1 : Value → World → Prop} (hoe : ops[e]? = some oe) (heq : e < q) (hqs : q ≤ ops.size) (hok : FlowOk ops anc q)
    (hop0 : ∀ i o, i < q → i ≠ e → ops[i]? = some o → ∀ (K : Act → World → Prop) (a : Act) (w : World), (∀ t ∈ o.looksAt ops, a.tmps[t]? = T.tmps[t]?) → a.tmps.size = T.tmps.size → a.defers = T.defers → S w →
      (∀ a' w', S w' → a'.tmps.size = T.tmps.size → a'.defers = T.defers → (∀ t, o.dst ≠ some t → a'.tmps[t]? = a.tmps[t]?) → (∀ t, o.dst = some t → a'.tmps[t]? = T.tmps[t]?) → K a' w') → op i K a w)
    (hev : ∀ (K : Act → World → Prop) (a : Act) (w : World), (∀ t ∈ oe.looksAt ops, a.tmps[t]? = T.tmps[t]?) → a.tmps.size = T.tmps.size → a.defers = T.defers → S w → (∀ u w', S1 u w' → K (a.put oe.dst u) w') → op e K a w)
    (hop1 : ∀ u i o, i < q → i ≠ e → i ∉ anc.getD e [] → ops[i]? = some o → ∀ (K : Act → World → Prop) (a : Act) (w : World), (∀ t ∈ o.looksAt ops, a.tmps[t]? = (T.put oe.dst u).tmps[t]?) → a.tmps.size = (T.put oe.dst u).tmps.size → a.defers = (T.put oe.dst u).defers → S1 u w →
      (∀ a' w', S1 u w' → a'.tmps.size = (T.put oe.dst u).tmps.size → a'.defers = (T.put oe.dst u).defers → (∀ t, o.dst ≠ some t → a'.tmps[t]? = a.tmps[t]?) → (∀ t, o.dst = some t → a'.tmps[t]? = (T.put oe.dst u).tmps[t]?) → K a' w') → op i K a w)
    (hT : ∀ u w, S1 u w → seqG op Qn (List.range' q (ops.size - q)) (T.put oe.dst u) w)
    (hmono : ∀ i K K' a w, (∀ a w, K a w → K' a w) → op i K a w → op i K' a w) :
    ∀ (fuel : Nat) (listed : Array Bool) (a : Act) (w : World), listed.size = ops.size → listed.toList.countP (! ·) ≤ fuel →
      (∀ i, listed.getD i false = true → ∀ j ∈ anc.getD i [], listed.getD j false = true) →
      (∀ j, q ≤ j → listed.getD j false = false) → listed.getD e false = false → Partly ops q listed T a → S w →
      anyG op ops Qn fuel listed a w := by
  have helt := (Array.getElem?_eq_some_iff.1 hoe).1
  intro fuel
  induction fuel with
  | zero =>
    intro listed a w hsz hc hI htl hte hP hS
    exfalso
    have h0 : listed.toList.countP (! ·) = 0 := by omega
    rw [List.countP_eq_zero] at h0
    have h1 := h0 listed[e] (by simp)
    have h2 := hte
    simp [Array.getD_eq_getD_getElem?, hsz ▸ helt] at h1 h2
    rw [h1] at h2; cases h2
  | succ fuel ih =>
    intro listed a w hsz hc hI htl hte hP hS
    have hDi : ∀ (i : Nat) (o : Oper), ops[i]? = some o → (∀ e ∈ o.after.toList, Region.binds .any e = true → listed.getD e.on false = true) → ∀ j ∈ anc.getD i [], listed.getD j false = true := fun i o ho h2 j hj => by
      obtain ⟨e, he, hb, h⟩ := hok.anc i o ho j hj
      rcases h with rfl | h
      · exact h2 e he hb
      · exact hI e.on (h2 e he hb) j h
    have hft : ∀ i, i < ops.size → listed.getD i false = false → listed.getD i true = false := fun i hi h => by
      simp [Array.getD_eq_getD_getElem?, hsz ▸ hi] at h ⊢; exact h
    have hsome : ∀ m, m < ops.size → listed.getD m false = false → (∀ j, j < m → listed.getD j false = true) → m ∈ Region.ready .any ops listed := fun m hm h1 h2 =>
      ready_mem (o := ops[m]) (by simp [hm]) (hft m hm h1) fun e he hb => h2 _ (hok.back m ops[m] (by simp [hm]) e he hb)
    have hnext : ∀ (i : Nat) (o : Oper), ops[i]? = some o → listed.getD i true = false → (∀ e ∈ o.after.toList, Region.binds .any e = true → listed.getD e.on false = true) →
        (listed.setIfInBounds i true).size = ops.size ∧ (listed.setIfInBounds i true).toList.countP (! ·) ≤ fuel ∧ (∀ k, (listed.setIfInBounds i true).getD k false = true → ∀ j ∈ anc.getD k [], (listed.setIfInBounds i true).getD j false = true) := fun i o ho h1 h2 => by
      have hlt := (Array.getElem?_eq_some_iff.1 ho).1
      have hlt' : i < listed.size := by omega
      refine ⟨by simpa using hsz, ?_, fun k hk j hj => ?_⟩
      · have hfi : listed.toList[i]'(by simpa using hlt') = false := by
          simp [Array.getD_eq_getD_getElem?, hlt'] at h1; simpa using h1
        have hset : (listed.setIfInBounds i true).toList = listed.toList.set i true := by simp
        rw [hset, List.countP_set (by simpa using hlt')]
        simp only [hfi, Bool.not_false, Bool.not_true, if_true, Bool.false_eq_true, if_false, Nat.add_zero]
        have : 0 < listed.toList.countP (! ·) := List.countP_pos_iff.2 ⟨listed.toList[i]'(by simpa using hlt'), List.getElem_mem _, by rw [hfi]; rfl⟩
        omega
      · rw [getD_set]
        rw [getD_set] at hk
        by_cases hji : i = j ∧ i < listed.size
        · rw [if_pos hji]
        · rw [if_neg hji]
          by_cases hki : i = k ∧ i < listed.size
          · obtain ⟨rfl, _⟩ := hki
            exact hDi i o ho h2 j hj
          · rw [if_neg hki] at hk
            exact hI k hk j hj
    refine ⟨fun hr => ?_, fun i hi => ?_⟩
    · exfalso
      have hex : ∀ n, (∃ j, j ≤ n ∧ listed.getD j false = false) → ∃ m, m ≤ n ∧ listed.getD m false = false ∧ ∀ j, j < m → listed.getD j false = true := by
        intro n
        induction n with
        | zero => rintro ⟨j, hj, h⟩; exact ⟨0, Nat.le_refl _, by obtain rfl : j = 0 := (by omega); exact h, fun _ h => absurd h (by omega)⟩
        | succ n ihn =>
          rintro ⟨j, hj, h⟩
          by_cases hx : ∃ j, j ≤ n ∧ listed.getD j false = false
          · obtain ⟨m, a, b⟩ := ihn hx; exact ⟨m, by omega, b⟩
          · refine ⟨n + 1, Nat.le_refl _, ?_, fun k hk => ?_⟩
            · rcases Nat.lt_or_ge n j with hl | hl
              · obtain rfl : j = n + 1 := (by omega); exact h
              · exact absurd ⟨j, hl, h⟩ hx
            · cases hv : listed.getD k false with
              | true => rfl
              | false => exact absurd ⟨k, by omega, hv⟩ hx
      obtain ⟨m, hm, hmf, hml⟩ := hex e ⟨e, Nat.le_refl _, hte⟩
      have := hsome m (by omega) hmf hml
      rw [hr] at this
      cases this
    · obtain ⟨o, ho, hu, ha⟩ := ready_spec hi
      have hlt := (Array.getElem?_eq_some_iff.1 ho).1
      obtain ⟨n1, n2, n3⟩ := hnext i o ho hu ha
      by_cases hie : i = e
      · subst hie
        obtain rfl : oe = o := by rw [ho] at hoe; cases hoe; rfl
        refine hev _ a w (fun t ht => hP.same t fun j oj hjq hoj hd => hDi i _ ho ha j (hok.looks i _ ho t ht j oj hjq hoj hd)) hP.size hP.defers hS fun u w' hS' => ?_
        have hP' : Partly ops q (listed.setIfInBounds i true) (T.put oe.dst u) (a.put oe.dst u) := by
          refine ⟨by rw [put_size, put_size]; exact hP.size, by rw [put_defers, put_defers]; exact hP.defers, fun t ht => ?_⟩
          by_cases hd : oe.dst = some t
          · rw [hd]
            by_cases hb : t < T.tmps.size
            · rw [put_get_same hb, put_get_same (by rw [hP.size]; exact hb)]
            · rw [Array.getElem?_eq_none (by rw [put_size, hP.size]; exact Nat.le_of_not_lt hb), Array.getElem?_eq_none (by rw [put_size]; exact Nat.le_of_not_lt hb)]
          · rw [put_get hd, put_get hd]
            refine hP.same t fun j oj hj hoj hdj => ?_
            have hji : j ≠ i := fun h => by subst h; rw [ho] at hoj; cases hoj; exact hd hdj
            have := ht j oj hj hoj hdj
            rw [getD_set, if_neg (fun h => hji h.1.symm)] at this
            exact this
        refine any_flow (T := T.put oe.dst u) (S := S1 u) (fun j => j < q ∧ j ≠ i ∧ j ∉ anc.getD i []) hok hqs (fun j oj hj hUj hoj => ?_) (fun w hS => hT u w hS) hmono fuel _ _ _ n1 n2 n3 ?_
        · exact hop1 u j oj hUj.1 hUj.2.1 hUj.2.2 hoj
        by_cases hx : ∃ j, j < q ∧ (listed.setIfInBounds i true).getD j false = false
        · refine .inl ⟨hx, fun j hj => ?_, hP', hS', fun j hj hf => ?_⟩
          · rw [getD_set, if_neg (by omega)]; exact htl j (by omega)
          · rw [getD_set] at hf
            by_cases hij : i = j ∧ i < listed.size
            · rw [if_pos hij] at hf; cases hf
            · rw [if_neg hij] at hf
              refine ⟨hj, fun e => hij ⟨e.symm, by omega⟩, fun hm => by rw [hDi i _ ho ha j hm] at hf; cases hf⟩
        · have hall : ∀ j, j < q → (listed.setIfInBounds i true).getD j false = true := fun j hj => by
            cases hv : (listed.setIfInBounds i true).getD j false with
            | true => rfl
            | false => exact absurd ⟨j, hj, hv⟩ hx
          have hTa : a.put oe.dst u = T.put oe.dst u := by
            generalize a.put oe.dst u = x at hP'
            generalize T.put oe.dst u = y at hP'
            obtain ⟨t1, d1⟩ := x
            obtain ⟨t2, d2⟩ := y
            obtain ⟨p1, p2, p3⟩ := hP'
            simp only at p1 p2 p3
            subst p2
            congr
            exact Array.ext_getElem? fun t => p3 t fun j _ hj _ _ => hall j hj
          refine .inr ⟨q, Nat.le_refl _, hqs, hall, fun j hj => ?_, by rw [hTa]; exact hT u w' hS'⟩
          rw [getD_set, if_neg (by omega)]; exact htl j (by omega)
      · rcases Nat.lt_or_ge i q with h | h
        · refine hop0 i o h hie ho _ a w (fun t ht => hP.same t fun j oj hjq hoj hd => hDi i o ho ha j (hok.looks i o ho t ht j oj hjq hoj hd)) hP.size hP.defers hS ?_
          intro a' w' hS' hsz' hdf' hoth hown
          refine ih _ a' w' n1 n2 n3 (fun j hj => ?_) ?_ ⟨hsz', hdf', fun t ht => ?_⟩ hS'
          · rw [getD_set, if_neg (by omega)]; exact htl j hj
          · rw [getD_set, if_neg (by omega)]; exact hte
          · by_cases hd : o.dst = some t
            · exact hown t hd
            · rw [hoth t hd]
              refine hP.same t fun j oj hj hoj hdj => ?_
              have := ht j oj hj hoj hdj
              rw [getD_set] at this
              by_cases hij : i = j ∧ i < listed.size
              · obtain ⟨rfl, _⟩ := hij
                rw [ho] at hoj; cases hoj; exact absurd hdj hd
              · rwa [if_neg hij] at this
        · exfalso
          have := hDi i o ho ha e (hok.tail i o ho h e (by omega))
          rw [hte] at this; cases this
end
def EachOp4 (P : Program) (ops : Array Oper) (S : World → Prop) (S1 : Value → World → Prop) (T : Act) (bs : List Nat) (e : Nat) : Nat → List Oper → Prop
  | _, [] => True
  | i, o :: r => (i = e ∨ (i ∈ bs ∧ FlowOp P ops S T o) ∨ EitherOp P ops S S1 T o) ∧ EachOp4 P ops S S1 T bs e (i + 1) r
theorem EachOp4.get {P : Program} {ops : Array Oper} {S : World → Prop} {S1 : Value → World → Prop} {T : Act} {bs : List Nat} {e : Nat} : ∀ {l : List Oper} {k : Nat}, EachOp4 P ops S S1 T bs e k l → ∀ (i : Nat) (o : Oper), k + i ≠ e → l[i]? = some o → (k + i ∈ bs ∧ FlowOp P ops S T o) ∨ EitherOp P ops S S1 T o
  | [], _, _, i, o, _, ho => by simp at ho
  | x :: l, k, h, 0, o, hne, ho => by
    simp at ho; subst ho
    rcases h.1 with h1 | h1
    · exact absurd h1 hne
    · exact h1
  | x :: l, k, h, i + 1, o, hne, ho => by
    have := EachOp4.get h.2 i o (by omega) (by simpa using ho)
    rwa [show k + 1 + i = k + (i + 1) by omega] at this
theorem EachOp4.ops {P : Program} {ops : Array Oper} {S : World → Prop} {S1 : Value → World → Prop} {T : Act} {bs : List Nat} {e q : Nat} {l : List Oper} (hl : ops.toList.take q = l) (h : EachOp4 P ops S S1 T bs e 0 l) : ∀ i o, i < q → i ≠ e → ops[i]? = some o → (i ∈ bs ∧ FlowOp P ops S T o) ∨ EitherOp P ops S S1 T o := fun i o hi hne ho => by
  have h1 : l[i]? = some o := by rw [← hl, List.getElem?_take, if_pos hi, Array.getElem?_toList]; exact ho
  have := EachOp4.get h i o (by omega) h1
  rwa [Nat.zero_add] at this
theorem wp_flow10 {P : Program} {id : Nat} {ops : Array Oper} {Q : Exit → Act → World → Prop} {a : Act} {w : World} (anc : List (List Nat)) (e q : Nat) (S : World → Prop) (S1 : Value → World → Prop) (T : Act) {oe : Oper}
    (hm : P.follows .mixedOrders = true) (hb : flowB ops anc q = true) (hoe : ops[e]? = some oe) (hc : (decide (e < q) && (decide (q ≤ ops.size) && ((List.range q).all fun i => !((anc.getD i []).contains e)))) = true) (hA : Ahead ops q T a) (hS : S w.drew)
    (hop : ∀ i o, i < q → i ≠ e → ops[i]? = some o → (i ∈ anc.getD e [] ∧ FlowOp P ops S T o) ∨ EitherOp P ops S S1 T o) (hev : CallOp P ops S S1 T oe)
    {tl : List Oper} (htl : ops.toList.drop q = tl) (hT : ∀ u w, S1 u w → wpList P ops Q tl (T.put oe.dst u) w) :
    (Code.region id ops true).wp P Q a w := by
  have hok := FlowOk.of hb
  simp only [Bool.and_eq_true, decide_eq_true_eq] at hc
  obtain ⟨hc1, hc2, hc3⟩ := hc
  have hc4 : ∀ i, i < q → e ∉ anc.getD i [] := fun i hi hm => by
    have := List.all_eq_true.1 hc3 i (List.mem_range.2 hi)
    rw [List.contains_iff_mem.2 hm] at this
    cases this
  have helt := (Array.getElem?_eq_some_iff.1 hoe).1
  have hf : ∀ j, (Array.replicate ops.size false).getD j false = false := fun j => by
    simp [Array.getD_eq_getD_getElem?, Array.getElem?_replicate]
    split <;> rfl
  refine wp_region_any hm (anyG_wp _ _ _ _ (any_flow4 (T := T) (S := S) (S1 := S1) hoe hc1 hc2 hok (fun i o hi hie ho K a w hl hs hd hS hK => flow_op ho (hok.plain i o ho) ?_ hl hs hd hS hK) (fun K a w hl hs hd hS hK => ?_) (fun u i o hi hie hna ho K a w hl hs hd hS hK => flow_op ho (hok.plain i o ho) ?_ hl hs hd hS hK)
    (fun u w hS => seqG_wp _ _ _ (by rw [range_drop, wpOps_eq_wpList _ _ (drop_get q), htl]; exact hT u w hS)) (fun i K K' a w h => wpOp_mono h) _ _ _ _ (by simp) (by simp [List.countP_replicate]) (fun i hi => by rw [hf i] at hi; cases hi) (fun j _ => hf j) (hf e) ⟨hA.1, hA.2.1, fun t ht => hA.2.2 t fun j o hj ho hd => by have := ht j o hj ho hd; rw [hf j] at this; cases this⟩ hS))
  · rcases hop i o hi hie ho with h | h
    · exact h.2
    · exact h.1
  · unfold wpOp
    simp only [hoe]
    rw [wanted_of_looks hl, if_pos hev.1]
    refine .inl ?_
    unfold Oper.wp
    rw [execOp_congr oe (plain_select (hok.plain e oe hoe)) (eval_of_looks hl)]
    obtain ⟨f, args, W', hr, hcl⟩ := hev.2 w hS
    rw [hr]
    refine hcl.mono fun e W'' he => ?_
    obtain ⟨u, rfl, hS'⟩ := he
    exact hK u W'' hS'
  · rcases hop i o hi hie ho with h | h
    · exact absurd h.1 hna
    · refine (h.2 u).behind (fun t ht hd => ?_) (fun d hd hd' => ?_) (hok.plain i o ho)
      · exact absurd (hok.looks i o ho t ht e oe hc1 hoe hd) (hc4 i hi)
      · exact hok.dst i o ho e oe hoe (Ne.symm hie) d hd hd'
end Go.Proofs.YtbmkbokkmmdjdaaGreat
end
section
namespace Go.Proofs.YtbmkbokkmmdjdaaGreat
open Go.RowKit Go.Proofs.YtbmkbokkmmdjdaaGreatW.PrintWords Go.Proofs.YtbmkbokkmmdjdaaGreatW.PrintLast Go.Proofs.YtbmkbokkmmdjdaaGreatW.PrintMore
open Q Go.Shelf
attribute [local go_sem] Oper.semAt_some wide_depth wide_fn
set_option linter.unusedVariables false
set_option linter.unusedSimpArgs false

attribute [local go_sem high] eqA27
def eqB (a x : Int × Int) : Bool := a.1 == x.1 && (a.2 == x.2)
def idxA (l : List (Int × Int)) (a : Int × Int) : Int := if l.any (eqB a) = true then (l.findIdx (eqB a) : Int) else -1
theorem idxA_at {l : List (Int × Int)} {a : Int × Int} {k : Nat} (h : k < l.length) (hp : eqB a l[k] = true) (hn : ∀ j (hj : j < l.length), j < k → eqB a l[j] = false) : idxA l a = k := by
  unfold idxA
  rw [if_pos (List.any_eq_true.2 ⟨_, List.getElem_mem h, hp⟩)]
  congr 1
  exact (List.findIdx_eq h).2 ⟨hp, fun j hj => hn j (by omega) hj⟩
theorem idxA_none {l : List (Int × Int)} {a : Int × Int} (hn : ∀ j (hj : j < l.length), eqB a l[j] = false) : idxA l a = -1 := by
  unfold idxA
  rw [if_neg]
  intro h
  obtain ⟨x, hx, hp⟩ := List.any_eq_true.1 h
  obtain ⟨j, hj, rfl⟩ := List.getElem_of_mem hx
  rw [hn j hj] at hp; cases hp
theorem eqB_iff (a x : Int × Int) : eqB a x = true ↔ a = x := by
  unfold eqB
  obtain ⟨a1, a2⟩ := a
  obtain ⟨x1, x2⟩ := x
  simp
theorem idxA_nonneg (l : List (Int × Int)) (a : Int × Int) : decide (0 ≤ idxA l a) = decide (a ∈ l) := by
  unfold idxA
  by_cases h : a ∈ l
  · rw [if_pos (List.any_eq_true.2 ⟨a, h, (eqB_iff a a).2 rfl⟩)]; simp [h]
  · rw [if_neg]
    · simp [h]
    · intro hh
      obtain ⟨x, hx, hp⟩ := List.any_eq_true.1 hh
      exact h ((eqB_iff a x).1 hp ▸ hx)
set_option maxRecDepth 100000 in
set_option maxHeartbeats 2000000 in
set_option pp.deepTerms true in
set_option pp.maxSteps 1000000 in
theorem indexA_any (KA : List (Int × Int)) (a : Int × Int) (Aa : Option Addr) (ca : Nat) (w : World) (hr : w.ownsRow 0 60 2 (.slice Aa KA.length ca) KA.length (aF KA)) (hl : KA.length ≤ 1000000) :
    Calls Tryz.prog 71 #[.slice Aa KA.length ca, .agg #[.int .u8 a.1, .int .i64 a.2]] w (RetInt (idxA KA a) w) := by
  have hu := Tryz.underlying60
  have hu1 := Tryz.underlying57
  have hbel := (Below.refl w.heap.size w).alloc (Nat.le_refl _) (.cells #[.int .u8 a.1, .int .i64 a.2] 60)
  have e0 := World.alloc_heap_new w (.cells #[.int .u8 a.1, .int .i64 a.2] 60)
  have H0 := hid (And.intro hbel (And.intro e0 (rings_set hr hbel)))
  clear hr hbel e0
  go_enter Tryz.func71, Tryz.ntmps71
  go_upto_region 2 with fail
  generalize w.alloc (.cells #[.int .u8 a.1, .int .i64 a.2] 60) = W1 at *
  have HB := hid (Below.refl W1.heap.size W1)
  go_wp2_with fail
  go_loopw [8] (fun v8 X => ∃ k : Nat, k ≤ KA.length ∧ v8 = .int .i64 k ∧ Hid (Below W1.heap.size W1 X) ∧ Hid (∀ (j : Nat) (h : j < KA.length), j < k → eqB a KA[j] = false)) (fun v8 _ => KA.length - (intOf v8).toNat)
  case atStart => exact ⟨0, by omega, rfl, HB, hid fun _ _ h => absurd h (by omega)⟩
  case round =>
    obtain ⟨k, hk, rfl, HX, HK⟩ := hrel
    rename World => Wk
    by_cases hlt : k < KA.length
    · obtain ⟨x, hka⟩ : ∃ x, KA[k] = x := ⟨_, rfl⟩
      have hkd : KA.getD k (0, 0) = x := by rw [← hka]; simp [List.getD, hlt]
      have hra := rings_set H0.out.2.2 HX.out
      obtain ⟨ga, gc, hga⟩ : ∃ ga gc, Aa = some ⟨ga, 0, none⟩ ∧ gc = ca := by
        rcases hra.2 with ⟨h1, h2⟩ | ⟨g1, c1, u1, h1, _⟩
        · injection h1 with e1 e2 e3; omega
        · injection h1 with e1 e2 e3; exact ⟨g1, c1, e1, e3.symm⟩
      obtain ⟨rfl, rfl⟩ := hga
      have q0 : Wk.cell? ⟨ga, k * 2, none⟩ = some (.int .u8 x.1) := by
        have e := hra.cellAt (k * 2 + 0) (by omega)
        rw [aF_at hlt (by omega), hkd] at e; exact e
      have q1 : Wk.cell? ⟨ga, k * 2 + 1, none⟩ = some (.int .i64 x.2) := by
        have e := hra.cellAt (k * 2 + 1) (by omega)
        rw [aF_at hlt (by omega), hkd] at e; exact e
      have hbx := heap_grow H0.out.2.1 HX.out
      have y0 := blkCell hbx 0
      have y1 := blkCell hbx 1
      simp at y0 y1
      clear hbx hra hkd
      have HKA := hid hka
      have HLT := hid hlt
      clear hka
      go_upto_region 4 with fail
      refine wp_flow [[], [], [], [1, 2], [3, 1, 2], [0, 4, 3, 1, 2]] 6
        (fun V => V.cell? ⟨w.heap.size, 0, none⟩ = some (.int .u8 a.1) ∧ V.cell? ⟨w.heap.size, 1, none⟩ = some (.int .i64 a.2) ∧ V.cell? ⟨ga, k * 2, none⟩ = some (.int .u8 x.1) ∧ V.cell? ⟨ga, k * 2 + 1, none⟩ = some (.int .i64 x.2) ∧ Below Wk.heap.size Wk V)
        { tmps := #[.slice (some ⟨ga, 0, none⟩) KA.length gc, .agg #[.int .u8 a.1, .int .i64 a.2], undef, .pointer (some ⟨w.heap.size, 0, none⟩), u4, .int .i64 k, .slice (some ⟨ga, 0, none⟩) KA.length gc, .int .i64 KA.length, .int .i64 k, .bool true, .int .i64 k, .agg #[.int .u8 a.1, .int .i64 a.2], .slice (some ⟨ga, 0, none⟩) KA.length gc, .int .i64 k, .pointer (some ⟨ga, k * 2, none⟩), .agg #[.int .u8 x.1, .int .i64 x.2], .bool (a.1 == x.1 && (a.2 == x.2)), u17, u18], defers := [] }
        mixed (by kernel_rfl) rfl (Ahead.of3 11 17 rfl rfl (by kernel_rfl) rfl rfl) ?_ (AllFlow.ops rfl ?_) rfl ?_
      · exact ⟨y0, y1, q0, q1, (Below.refl _ _).drew⟩
      · refine ⟨?_, ?_, ?_, ?_, ?_, ?_, trivial⟩
        · exact .val 11 _ rfl rfl fun V ⟨y0, y1, x0, x1, hB_⟩ => by go_simp
        · exact .val 12 _ rfl rfl fun V ⟨y0, y1, x0, x1, hB_⟩ => by go_simp
        · exact .val 13 _ rfl rfl fun V ⟨y0, y1, x0, x1, hB_⟩ => by go_simp
        · exact .val 14 _ rfl rfl fun V ⟨y0, y1, x0, x1, hB_⟩ => by go_simp <;> omega
        · exact .val 15 _ rfl rfl fun V ⟨y0, y1, x0, x1, hB_⟩ => by go_simp
        · exact .val 16 _ rfl rfl fun V ⟨y0, y1, x0, x1, hB_⟩ => by go_simp
      rintro V ⟨y0, y1, x0, x1, hB_⟩
      have HV := hid (HX.out.trans (hB_.mono HX.out.size))
      clear hB_ y0 y1 q0 q1 HX
      by_cases hab : eqB a x = true
      · have d : (a.1 == x.1 && (a.2 == x.2)) = true := hab
        have HI := hid (show idxA KA a = k from idxA_at HLT.out (by rw [HKA.out]; exact hab) (fun j hj h => HK.out j hj h))
        clear hab HK
        go_wp2
        go_ret
        exact ⟨ret_int HI.out.symm, H0.out.1.trans (HV.out.mono H0.out.1.size)⟩
      · have d : (a.1 == x.1 && (a.2 == x.2)) = false := by have : eqB a x = false := by simpa using hab
                                                            exact this
        have HK' := hid (show ∀ (j : Nat) (h : j < KA.length), j < k + 1 → eqB a KA[j] = false from fun j h hj => by
          by_cases e : j = k
          · subst e; rw [HKA.out]; exact d
          · exact HK.out j h (by omega))
        clear hab HK
        have hL := HLT.out
        go_wp2
        go_roundw
        case rel => exact ⟨k + 1, by omega, by go_num, HV, HK'⟩
        case measure => simp [intOf]; omega
    · obtain rfl : k = KA.length := by omega
      have HI := hid (show idxA KA a = -1 from idxA_none (fun j hj => HK.out j hj hj))
      clear HK
      go_wp2
      go_ret
      exact ⟨ret_int HI.out.symm, H0.out.1.trans (HX.out.mono H0.out.1.size)⟩
set_option maxRecDepth 100000 in
set_option maxHeartbeats 2000000 in
theorem containsA_any (KA : List (Int × Int)) (a : Int × Int) (Aa : Option Addr) (ca : Nat) (w : World) (hr : w.ownsRow 0 60 2 (.slice Aa KA.length ca) KA.length (aF KA)) (hl : KA.length ≤ 1000000) :
    Calls Tryz.prog 33 #[.slice Aa KA.length ca, .agg #[.int .u8 a.1, .int .i64 a.2]] w (RetBool (decide (a ∈ KA)) w) := by
  have hu := Tryz.underlying60
  have hbel := (Below.refl w.heap.size w).alloc (Nat.le_refl _) (.cells #[.int .u8 a.1, .int .i64 a.2] 60)
  have e0 := World.alloc_heap_new w (.cells #[.int .u8 a.1, .int .i64 a.2] 60)
  have hr1 := rings_set hr hbel
  go_enter Tryz.func33, Tryz.ntmps33
  go_wp2_with fail
  generalize w.alloc (.cells #[.int .u8 a.1, .int .i64 a.2] 60) = W1 at *
  refine (indexA_any KA a Aa ca _ hr1 hl).mono ?_
  rintro e W2 ⟨rfl, hb⟩
  have HB := hid (hbel.trans (hb.mono hbel.size))
  have HN := hid (idxA_nonneg KA a)
  clear hr hr1 hbel e0 hb
  go_wp2
  go_ret
  exact ⟨by rw [← HN.out]; rfl, HB.out⟩
end Go.Proofs.YtbmkbokkmmdjdaaGreat
end
