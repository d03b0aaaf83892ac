-- S2 N51 N23 (wip/pack9.py)
import Derived.Test.YtbmkbokkmmdjdaaGreatU31
import Derived.Test.YtbmkbokkmmdjdaaGreatU2
import Derived.Test.YtbmkbokkmmdjdaaGreatU19
section
namespace Go.Proofs.YtbmkbokkmmdjdaaGreat
open Go.RowKit Go.Proofs.YtbmkbokkmmdjdaaGreatW.PrintWords Go.Proofs.YtbmkbokkmmdjdaaGreatW.PrintLast Go.Proofs.YtbmkbokkmmdjdaaGreatW.PrintMore
open Q Go.Shelf
attribute [local go_sem] Oper.semAt_some wide_depth wide_fn
set_option linter.unusedVariables false
set_option linter.unusedSimpArgs false

set_option maxRecDepth 100000 in
set_option maxHeartbeats 4000000 in
theorem CoveredR_any (ho fi : S23) (A : Option Addr) (c : Nat) (l : List S93) (w : World) (hr : Kd.C k93 w A l.length l) (hc : l.length ≤ c) :
    Calls Tryz.prog 13 #[.agg #[.int .i64 ho.f0, .int .i64 ho.f1, .int .i64 fi.f0, .int .i64 fi.f1, .slice A l.length c]] w fun e w' => e = .returned (.tuple #[.int .i64 (coveredV ho fi l).1, .int .i64 (coveredV ho fi l).2]) ∧ Below w.heap.size w w' := by
  have hu1 := Tryz.underlying26
  have HB := Below.refl w.heap.size w
  have hbel := hid (HB.alloc (Nat.le_refl _) (.cells #[.int .i64 ho.f0, .int .i64 ho.f1, .int .i64 fi.f0, .int .i64 fi.f1, .slice A l.length c] 26))
  have e0 := World.alloc_heap_new w (.cells #[.int .i64 ho.f0, .int .i64 ho.f1, .int .i64 fi.f0, .int .i64 fi.f1, .slice A l.length c] 26)
  have HR := hid hr
  clear hr HB
  go_enter Tryz.func13, Tryz.ntmps13
  go_wp2_with fail
  generalize w.alloc (.cells #[.int .i64 ho.f0, .int .i64 ho.f1, .int .i64 fi.f0, .int .i64 fi.f1, .slice A l.length c] 26) = W1 at *
  refine (checkR_any ho fi A c l _ (Kd.C_below HR.out hbel.out) hc).mono ?_
  rintro e W2 ⟨rfl, hb⟩
  have HBE := hid (hbel.out.trans (hb.mono hbel.out.size))
  have HE := hid (heap_grow e0 hb)
  clear hb hbel e0
  have y0 := blkCell HE.out 0
  have y1 := blkCell HE.out 1
  have y2 := blkCell HE.out 2
  have y3 := blkCell HE.out 3
  have y4 := blkCell HE.out 4
  simp at y0 y1 y2 y3 y4
  by_cases h1 : bookErr ho fi l = 0
  rotate_left
  · have HRS := hid (show coveredV ho fi l = (0, bookErr ho fi l) by unfold coveredV; rw [if_neg h1])
    obtain ⟨er, her⟩ : ∃ er, bookErr ho fi l = er := ⟨_, rfl⟩
    rw [her] at h1 HRS
    rw [her]
    have d0 : (er != 0) = true := by simpa using h1
    clear her h1
    go_wp2
    refine bodyPost_ret (v := .tuple #[.int .i64 0, .int .i64 er]) (by simp [results, Tryz.results13, go_sem]) rfl ⟨by rw [HRS.out], HBE.out⟩
  have HV := hid h1
  have HRS := hid (show coveredV ho fi l = (covI (keptOf l) l, 0) by unfold coveredV; rw [if_pos h1])
  have d1 : (bookErr ho fi l != 0) = false := by simpa using h1
  clear h1
  go_wp2_with fail
  refine (coveredR_any ho fi A c l _ (Kd.C_below HR.out HBE.out) hc HV.out).mono ?_
  rintro e W3 ⟨rfl, hb⟩
  have HBF := hid (HBE.out.trans (hb.mono HBE.out.size))
  clear hb y0 y1 y2 y3 y4 d1
  go_wp2
  refine bodyPost_ret (v := .tuple #[.int .i64 (covI (keptOf l) l), .int .i64 0]) (by simp [results, Tryz.results13, go_sem]) rfl ⟨by rw [HRS.out], HBF.out⟩
theorem idx_sign (p : S93 → Bool) (l : List S93) : (l.any p = true → 0 ≤ idx p l ∧ idx p l < l.length) ∧ (l.any p = false → idx p l = -1) := by
  unfold idx
  refine ⟨fun h => ?_, fun h => by rw [h]; rfl⟩
  rw [if_pos h]
  have := List.findIdx_lt_length_of_exists (p := p) (xs := l) (by simpa using h)
  omega
set_option maxRecDepth 100000 in
set_option maxHeartbeats 8000000 in
set_option pp.deepTerms true in
set_option pp.maxSteps 1000000 in
theorem MostR_any (ho fi : S23) (A : Option Addr) (c : Nat) (l : List S93) (lot : Int) (w : World) (hr : Kd.C k93 w A l.length l) (hc : l.length ≤ c) :
    Calls Tryz.prog 15 #[.agg #[.int .i64 ho.f0, .int .i64 ho.f1, .int .i64 fi.f0, .int .i64 fi.f1, .slice A l.length c], .int .i64 lot] w fun e w' => e = .returned (.tuple #[.int .i64 (mostV ho fi l lot).1, .int .i64 (mostV ho fi l lot).2]) ∧ Below w.heap.size w w' := by
  have hu1 := Tryz.underlying26
  have hu := Tryz.underlying93
  have hu2 := Tryz.underlying88
  have hu6 := Tryz.underlying23
  have HB := Below.refl w.heap.size w
  have hbel := hid (HB.alloc (Nat.le_refl _) (.cells #[.int .i64 ho.f0, .int .i64 ho.f1, .int .i64 fi.f0, .int .i64 fi.f1, .slice A l.length c] 26))
  have e0 := World.alloc_heap_new w (.cells #[.int .i64 ho.f0, .int .i64 ho.f1, .int .i64 fi.f0, .int .i64 fi.f1, .slice A l.length c] 26)
  have HR := hid hr
  have HC := hid hc
  clear hr HB hc
  go_enter Tryz.func15, Tryz.ntmps15
  go_wp2_with fail
  generalize w.alloc (.cells #[.int .i64 ho.f0, .int .i64 ho.f1, .int .i64 fi.f0, .int .i64 fi.f1, .slice A l.length c] 26) = W1 at *
  refine (checkR_any ho fi A c l _ (Kd.C_below HR.out hbel.out) HC.out).mono ?_
  rintro e W2 ⟨rfl, hb⟩
  have HBE := hid (hbel.out.trans (hb.mono hbel.out.size))
  have HE := hid (heap_grow e0 hb)
  clear hb hbel e0
  have y0 := blkCell HE.out 0
  have y1 := blkCell HE.out 1
  have y2 := blkCell HE.out 2
  have y3 := blkCell HE.out 3
  have y4 := blkCell HE.out 4
  simp at y0 y1 y2 y3 y4
  by_cases h1 : bookErr ho fi l = 0
  rotate_left
  · have hres : mostV ho fi l lot = (0, bookErr ho fi l) := by unfold mostV; rw [if_pos h1]
    obtain ⟨er, her⟩ : ∃ er, bookErr ho fi l = er := ⟨_, rfl⟩
    rw [her] at h1 hres
    rw [her]
    have d0 : (er != 0) = true := by simpa using h1
    clear her h1
    have HRS := hid (show mostV ho fi l lot = (0, er) from hres)
    clear hres
    go_wp2
    refine bodyPost_ret (v := .tuple #[.int .i64 0, .int .i64 er]) (by simp [results, Tryz.results15, go_sem]) rfl ⟨by rw [HRS.out], HBE.out⟩
  have HV := hid h1
  have HL := hid (bookOk_of h1).len
  have d1 : (bookErr ho fi l != 0) = false := by simpa using h1
  have HMV := hid (show mostV ho fi l lot = if thereErr lot l ≠ 0 then (0, thereErr lot l) else if l.any (isLot 7 lot) = true then (0, 6) else if closedB lot l = false then (0, 8) else if covI (keptOf l) l < l.length then (0, 0)
    else (((mostN ((keptOf l).ps.getD ((keptOf l).at lot).1.toNat z88) ((keptOf l).at lot).2.f1 1000 : Nat) : Int), 0) by unfold mostV; rw [if_neg (by simpa using h1)])
  clear h1
  go_wp2_with fail
  refine (findR_any A c l 4 lot _ (Kd.C_below HR.out HBE.out) HC.out (by have := HL.out; omega)).mono ?_
  rintro e WN ⟨rfl, hb⟩
  have HBE' := hid (HBE.out.trans (hb.mono HBE.out.size))
  have HE' := hid (heap_grow HE.out hb)
  clear hb HBE HE y0 y1 y2 y3 y4
  have HBE := HBE'
  have HE := HE'
  clear HBE' HE'
  have y0 := blkCell HE.out 0
  have y1 := blkCell HE.out 1
  have y2 := blkCell HE.out 2
  have y3 := blkCell HE.out 3
  have y4 := blkCell HE.out 4
  simp at y0 y1 y2 y3 y4
  cases h4 : l.any (isLot 4 lot) with
  | false =>
    have hi := (idx_sign (isLot 4 lot) l).2 h4
    have hres : mostV ho fi l lot = (0, 7) := by
      have ht : thereErr lot l = 7 := by unfold thereErr; rw [h4]; rfl
      rw [HMV.out, ht]; rfl
    rw [hi]
    clear h4 hi
    have HRS := hid (show mostV ho fi l lot = (0, 7) from hres)
    clear hres
    go_wp2
    refine bodyPost_ret (v := .tuple #[.int .i64 0, .int .i64 7]) (by simp [results, Tryz.results15, go_sem]) rfl ⟨by rw [HRS.out], HBE.out⟩
  | true =>
  have h40 := (idx_sign (isLot 4 lot) l).1 h4
  obtain ⟨p0, hf0, _, hp0⟩ := lot_ok h4
  obtain ⟨a, hal, hidx, hat⟩ := pk_idx HV.out (k := l.length) (Nat.le_refl _) (lot := lot) (p := p0) (by rw [List.take_length]; exact hf0)
  rw [List.take_length] at hat
  have hat2 : p0.2 = (keptOf l).at lot := by unfold KS.at; rw [hf0]; rfl
  rw [hat2, hat] at hp0
  simp only at hp0
  rw [hidx]
  have HCC := hid (closed_cnt hidx)
  have H4 := hid h4
  obtain ⟨ca, hca⟩ : ∃ ca, cnt (isKind 6) (l.take a) = ca := ⟨_, rfl⟩
  rw [hca] at hat hp0 HCC

  obtain ⟨sp, hsp⟩ : ∃ sp, l[a].f4 = sp := ⟨_, rfl⟩
  rw [hsp] at hat
  have HSP := hid (show l[a].f4 = sp from hsp)
  have HAL := hid (show a < l.length from hal)
  have HAT := hid hat
  have HPL := hid (show ca < (keptOf l).ps.length by omega)
  have HCA := hid hca
  have hag : decide ((a : Int) < 0) = false := decide_eq_false (by omega)
  clear h4 h40 hf0 hp0 hidx hat hat2 hsp hca
  go_wp2_with fail
  refine (findR_any A c l 8 lot _ (Kd.C_below HR.out HBE.out) HC.out (by have := HL.out; omega)).mono ?_
  rintro e WN ⟨rfl, hb⟩
  have HBE' := hid (HBE.out.trans (hb.mono HBE.out.size))
  have HE' := hid (heap_grow HE.out hb)
  clear hb HBE HE y0 y1 y2 y3 y4
  have HBE := HBE'
  have HE := HE'
  clear HBE' HE'
  have y0 := blkCell HE.out 0
  have y1 := blkCell HE.out 1
  have y2 := blkCell HE.out 2
  have y3 := blkCell HE.out 3
  have y4 := blkCell HE.out 4
  simp at y0 y1 y2 y3 y4
  cases h8 : l.any (isLot 8 lot) with
  | true =>
    have hi := (idx_sign (isLot 8 lot) l).1 h8
    have hres : mostV ho fi l lot = (0, 10) := by
      have ht : thereErr lot l = 10 := by unfold thereErr; rw [H4.out, h8]; rfl
      rw [HMV.out, ht]; rfl
    obtain ⟨q8, hq8⟩ : ∃ q, idx (isLot 8 lot) l = q := ⟨_, rfl⟩
    rw [hq8] at hi
    rw [hq8]
    have d8 : decide (0 ≤ q8) = true := decide_eq_true hi.1
    clear h8 hq8 hi
    have HRS := hid (show mostV ho fi l lot = (0, 10) from hres)
    clear hres
    go_wp2
    refine bodyPost_ret (v := .tuple #[.int .i64 0, .int .i64 10]) (by simp [results, Tryz.results15, go_sem]) rfl ⟨by rw [HRS.out], HBE.out⟩
  | false =>
  have hi8 := (idx_sign (isLot 8 lot) l).2 h8
  rw [hi8]
  have HMV2 := hid (show mostV ho fi l lot = if l.any (isLot 7 lot) = true then (0, 6) else if closedB lot l = false then (0, 8) else if covI (keptOf l) l < l.length then (0, 0)
    else (((mostN ((keptOf l).ps.getD ((keptOf l).at lot).1.toNat z88) ((keptOf l).at lot).2.f1 1000 : Nat) : Int), 0) by
    have ht : thereErr lot l = 0 := by unfold thereErr; rw [H4.out, h8]; rfl
    rw [HMV.out, ht]; rfl)
  clear h8 hi8 HMV
  go_wp2_with fail
  refine (findR_any A c l 7 lot _ (Kd.C_below HR.out HBE.out) HC.out (by have := HL.out; omega)).mono ?_
  rintro e WN ⟨rfl, hb⟩
  have HBE' := hid (HBE.out.trans (hb.mono HBE.out.size))
  have HE' := hid (heap_grow HE.out hb)
  clear hb HBE HE y0 y1 y2 y3 y4
  have HBE := HBE'
  have HE := HE'
  clear HBE' HE'
  have y0 := blkCell HE.out 0
  have y1 := blkCell HE.out 1
  have y2 := blkCell HE.out 2
  have y3 := blkCell HE.out 3
  have y4 := blkCell HE.out 4
  simp at y0 y1 y2 y3 y4
  cases h7 : l.any (isLot 7 lot) with
  | true =>
    have hi := (idx_sign (isLot 7 lot) l).1 h7
    have hres : mostV ho fi l lot = (0, 6) := by rw [HMV2.out, if_pos h7]
    obtain ⟨q8, hq8⟩ : ∃ q, idx (isLot 7 lot) l = q := ⟨_, rfl⟩
    rw [hq8] at hi
    rw [hq8]
    have d8 : decide (0 ≤ q8) = true := decide_eq_true hi.1
    clear h7 hq8 hi
    have HRS := hid (show mostV ho fi l lot = (0, 6) from hres)
    clear hres
    go_wp2
    refine bodyPost_ret (v := .tuple #[.int .i64 0, .int .i64 6]) (by simp [results, Tryz.results15, go_sem]) rfl ⟨by rw [HRS.out], HBE.out⟩
  | false =>
  have hi7 := (idx_sign (isLot 7 lot) l).2 h7
  rw [hi7]
  have HMV3 := hid (show mostV ho fi l lot = if closedB lot l = false then (0, 8) else if covI (keptOf l) l < l.length then (0, 0)
    else (((mostN ((keptOf l).ps.getD ((keptOf l).at lot).1.toNat z88) ((keptOf l).at lot).2.f1 1000 : Nat) : Int), 0) by rw [HMV2.out, if_neg (by rw [h7]; decide)])
  clear h7 hi7 HMV2
  obtain ⟨ct, hct⟩ : ∃ ct, cnt (isKind 6) l = ct := ⟨_, rfl⟩
  rw [hct] at HCC
  go_upto_region 11 with fail
  rename World => W6
  have HP1 := hid (fun (V : World) (hb : Below W6.heap.size W6 V) => by
    have := periodR_any A c l a V (Kd.C_below HR.out (HBE.out.trans (hb.mono HBE.out.size))) HC.out (by have := HAL.out; omega) (by have := HL.out; omega)
    rw [HCA.out] at this
    exact this)
  have HP2 := hid (fun (V : World) (hb : Below W6.heap.size W6 V) => by
    have := periodR_any A c l l.length V (Kd.C_below HR.out (HBE.out.trans (hb.mono HBE.out.size))) HC.out (Nat.le_refl _) (by have := HL.out; omega)
    rw [List.take_length, hct] at this
    exact this)
  clear hct
  clear y0 y1 y2 y3 y4
  refine wp_flow [[], [0], [], [1, 0, 2], [], [4], [], [6], [7, 6], [5, 4, 8, 7, 6, 3, 1, 0, 2], [3, 1, 0, 2, 9, 5, 4, 8, 7, 6], [10, 3, 1, 0, 2, 9, 5, 4, 8, 7, 6]] 12
    (fun V => V.cell? ⟨w.heap.size, 0, none⟩ = some (.int .i64 ho.f0) ∧ V.cell? ⟨w.heap.size, 1, none⟩ = some (.int .i64 ho.f1) ∧ V.cell? ⟨w.heap.size, 2, none⟩ = some (.int .i64 fi.f0) ∧ V.cell? ⟨w.heap.size, 3, none⟩ = some (.int .i64 fi.f1) ∧ V.cell? ⟨w.heap.size, 4, none⟩ = some (.slice A l.length c) ∧ Below W6.heap.size W6 V)
    { tmps := #[.agg #[.int .i64 ho.f0, .int .i64 ho.f1, .int .i64 fi.f0, .int .i64 fi.f1, .slice A l.length c], .int .i64 lot, .pointer (some ⟨w.heap.size, 0, none⟩), undef, .int .i64 0, .int .i64 0, .int .i64 (bookErr ho fi l), .int .i64 ((a : Int)), undef, undef, undef, undef, undef, .agg #[.int .i64 ho.f0, .int .i64 ho.f1, .int .i64 fi.f0, .int .i64 fi.f1, .slice A l.length c], .int .i64 (bookErr ho fi l), .int .i64 (bookErr ho fi l), .bool false, undef, .pointer (some ⟨w.heap.size, 4, none⟩), .slice A l.length c, .int .i64 lot, .int .i64 a, .bool false, .int .i64 a, .bool false, .bool false, .pointer (some ⟨w.heap.size, 4, none⟩), .slice A l.length c, .int .i64 lot, .int .i64 (-1), .bool false, .bool false, .pointer (some ⟨w.heap.size, 4, none⟩), .slice A l.length c, .int .i64 lot, .int .i64 (-1), .bool false, .bool (((ca : Int) == (ct : Int))), .pointer (some ⟨w.heap.size, 4, none⟩), .slice A l.length c, .int .i64 ((a : Int)), .int .i64 ((ca : Int)), .pointer (some ⟨w.heap.size, 4, none⟩), .slice A l.length c, .pointer (some ⟨w.heap.size, 4, none⟩), .slice A l.length c, .int .i64 ((l.length : Int)), .int .i64 ((ct : Int)), .bool (((ca : Int) == (ct : Int))), undef, undef, undef, undef, undef, undef, undef, undef, undef, undef, undef, undef, undef, undef, undef, undef, undef, undef, undef, undef, undef, undef, undef, undef, undef, undef, undef, undef, undef, undef, undef, undef, undef, undef, undef, undef, undef, undef, undef, undef], defers := [] }
    mixed (by kernel_rfl) rfl (Ahead.of3 37 49 rfl rfl (by kernel_rfl) rfl rfl) ?_ (AllFlow.ops rfl ?_) rfl ?_
  · exact ⟨blkCell HE.out 0, blkCell HE.out 1, blkCell HE.out 2, blkCell HE.out 3, blkCell HE.out 4, (Below.refl _ _).drew⟩
  · refine ⟨?_, ?_, ?_, ?_, ?_, ?_, ?_, ?_, ?_, ?_, ?_, ?_, trivial⟩
    · exact .val 38 _ rfl rfl fun V ⟨y0, y1, y2, y3, y4, hB_⟩ => by go_simp
    · exact .val 39 _ rfl rfl fun V ⟨y0, y1, y2, y3, y4, hB_⟩ => by go_simp
    · exact .val 40 _ rfl rfl fun V ⟨y0, y1, y2, y3, y4, hB_⟩ => by go_simp
    · refine .call 41 (.int .i64 ((ca : Int))) 46 #[.slice A l.length c, .int .i64 ((a : Int))] rfl rfl (fun V ⟨y0, y1, y2, y3, y4, hB_⟩ => by go_simp) fun V ⟨y0, y1, y2, y3, y4, hB_⟩ => ?_
      refine (HP1.out _ hB_).mono ?_
      rintro e w' ⟨rfl, hb⟩
      exact ⟨rfl, cell_grow y0 hb, cell_grow y1 hb, cell_grow y2 hb, cell_grow y3 hb, cell_grow y4 hb, hB_.trans (hb.mono hB_.size)⟩
    · exact .val 42 _ rfl rfl fun V ⟨y0, y1, y2, y3, y4, hB_⟩ => by go_simp
    · exact .val 43 _ rfl rfl fun V ⟨y0, y1, y2, y3, y4, hB_⟩ => by go_simp
    · exact .val 44 _ rfl rfl fun V ⟨y0, y1, y2, y3, y4, hB_⟩ => by go_simp
    · exact .val 45 _ rfl rfl fun V ⟨y0, y1, y2, y3, y4, hB_⟩ => by go_simp
    · exact .val 46 _ rfl rfl fun V ⟨y0, y1, y2, y3, y4, hB_⟩ => by go_simp
    · refine .call 47 (.int .i64 ((ct : Int))) 46 #[.slice A l.length c, .int .i64 l.length] rfl rfl (fun V ⟨y0, y1, y2, y3, y4, hB_⟩ => by go_simp) fun V ⟨y0, y1, y2, y3, y4, hB_⟩ => ?_
      refine (HP2.out _ hB_).mono ?_
      rintro e w' ⟨rfl, hb⟩
      exact ⟨rfl, cell_grow y0 hb, cell_grow y1 hb, cell_grow y2 hb, cell_grow y3 hb, cell_grow y4 hb, hB_.trans (hb.mono hB_.size)⟩
    · exact .val 48 _ rfl rfl fun V ⟨y0, y1, y2, y3, y4, hB_⟩ => by go_simp
    · exact .val 37 _ rfl rfl fun V ⟨y0, y1, y2, y3, y4, hB_⟩ => by go_simp
  rintro V ⟨y0, y1, y2, y3, y4, hB_⟩
  have HBE' := hid (HBE.out.trans (hB_.mono HBE.out.size))
  have HE' := hid (heap_grow HE.out hB_)
  clear hB_ HBE HE y0 y1 y2 y3 y4 HP1 HP2
  have HBE := HBE'
  have HE := HE'
  clear HBE' HE'
  clear W6
  by_cases hcc : ca = ct
  · have dc : ((ca : Int) == (ct : Int)) = true := by simp [hcc]
    have hres : mostV ho fi l lot = (0, 8) := by rw [HMV3.out, if_pos (by rw [HCC.out]; simp [hcc])]
    clear hcc
    have HRS := hid (show mostV ho fi l lot = (0, 8) from hres)
    clear hres
    go_wp2
    refine bodyPost_ret (v := .tuple #[.int .i64 0, .int .i64 8]) (by simp [results, Tryz.results15, go_sem]) rfl ⟨by rw [HRS.out], HBE.out⟩
  have dc : ((ca : Int) == (ct : Int)) = false := by simp; omega
  have HMV4 := hid (show mostV ho fi l lot = if covI (keptOf l) l < l.length then (0, 0)
      else (((mostN ((keptOf l).ps.getD ((keptOf l).at lot).1.toNat z88) ((keptOf l).at lot).2.f1 1000 : Nat) : Int), 0) by rw [HMV3.out, if_neg (by rw [HCC.out]; simp [hcc])])
  clear hcc HMV3 HCC
  go_upto_region 13 with fail
  clear dc
  rename World => W6
  have HCV := hid (fun (V : World) (hb : Below W6.heap.size W6 V) => coveredR_any ho fi A c l V (Kd.C_below HR.out (HBE.out.trans (hb.mono HBE.out.size))) HC.out HV.out)
  refine wp_flow [[], [0], [], [2], [3, 2], [1, 0, 4, 3, 2]] 6
    (fun V => V.cell? ⟨w.heap.size, 0, none⟩ = some (.int .i64 ho.f0) ∧ V.cell? ⟨w.heap.size, 1, none⟩ = some (.int .i64 ho.f1) ∧ V.cell? ⟨w.heap.size, 2, none⟩ = some (.int .i64 fi.f0) ∧ V.cell? ⟨w.heap.size, 3, none⟩ = some (.int .i64 fi.f1) ∧ V.cell? ⟨w.heap.size, 4, none⟩ = some (.slice A l.length c) ∧ Below W6.heap.size W6 V)
    { tmps := #[.agg #[.int .i64 ho.f0, .int .i64 ho.f1, .int .i64 fi.f0, .int .i64 fi.f1, .slice A l.length c], .int .i64 lot, .pointer (some ⟨w.heap.size, 0, none⟩), undef, .int .i64 0, .int .i64 0, .int .i64 (bookErr ho fi l), .int .i64 a, undef, undef, undef, undef, undef, .agg #[.int .i64 ho.f0, .int .i64 ho.f1, .int .i64 fi.f0, .int .i64 fi.f1, .slice A l.length c], .int .i64 (bookErr ho fi l), .int .i64 (bookErr ho fi l), .bool false, undef, .pointer (some ⟨w.heap.size, 4, none⟩), .slice A l.length c, .int .i64 lot, .int .i64 a, .bool false, .int .i64 a, .bool false, .bool false, .pointer (some ⟨w.heap.size, 4, none⟩), .slice A l.length c, .int .i64 lot, .int .i64 (-1), .bool false, .bool false, .pointer (some ⟨w.heap.size, 4, none⟩), .slice A l.length c, .int .i64 lot, .int .i64 (-1), .bool false, .bool false, .pointer (some ⟨w.heap.size, 4, none⟩), .slice A l.length c, .int .i64 a, .int .i64 ca, .pointer (some ⟨w.heap.size, 4, none⟩), .slice A l.length c, .pointer (some ⟨w.heap.size, 4, none⟩), .slice A l.length c, .int .i64 l.length, .int .i64 ct, .bool false, .agg #[.int .i64 ho.f0, .int .i64 ho.f1, .int .i64 fi.f0, .int .i64 fi.f1, .slice A l.length c], .int .i64 ((covI (keptOf l) l)), .pointer (some ⟨w.heap.size, 4, none⟩), .slice A l.length c, .int .i64 ((l.length : Int)), .bool (decide ((covI (keptOf l) l) < (l.length : Int))), undef, undef, undef, undef, undef, undef, undef, undef, undef, undef, undef, undef, undef, undef, undef, undef, undef, undef, undef, undef, undef, undef, undef, undef, undef, undef, undef, undef, undef, undef, undef, undef, undef, undef], defers := [] }
    mixed (by kernel_rfl) rfl (Ahead.of3 49 55 rfl rfl (by kernel_rfl) rfl rfl) ?_ (AllFlow.ops rfl ?_) rfl ?_
  · exact ⟨blkCell HE.out 0, blkCell HE.out 1, blkCell HE.out 2, blkCell HE.out 3, blkCell HE.out 4, (Below.refl _ _).drew⟩
  · refine ⟨?_, ?_, ?_, ?_, ?_, ?_, trivial⟩
    · exact .val 49 _ rfl rfl fun V ⟨y0, y1, y2, y3, y4, hB_⟩ => by go_simp
    · refine .call 50 (.int .i64 ((covI (keptOf l) l))) 40 #[.agg #[.int .i64 ho.f0, .int .i64 ho.f1, .int .i64 fi.f0, .int .i64 fi.f1, .slice A l.length c]] rfl rfl (fun V ⟨y0, y1, y2, y3, y4, hB_⟩ => by go_simp) fun V ⟨y0, y1, y2, y3, y4, hB_⟩ => ?_
      refine (HCV.out _ hB_).mono ?_
      rintro e w' ⟨rfl, hb⟩
      exact ⟨rfl, cell_grow y0 hb, cell_grow y1 hb, cell_grow y2 hb, cell_grow y3 hb, cell_grow y4 hb, hB_.trans (hb.mono hB_.size)⟩
    · exact .val 51 _ rfl rfl fun V ⟨y0, y1, y2, y3, y4, hB_⟩ => by go_simp
    · exact .val 52 _ rfl rfl fun V ⟨y0, y1, y2, y3, y4, hB_⟩ => by go_simp
    · exact .val 53 _ rfl rfl fun V ⟨y0, y1, y2, y3, y4, hB_⟩ => by go_simp
    · exact .val 54 _ rfl rfl fun V ⟨y0, y1, y2, y3, y4, hB_⟩ => by go_simp
  rintro V ⟨y0, y1, y2, y3, y4, hB_⟩
  have HBE' := hid (HBE.out.trans (hB_.mono HBE.out.size))
  have HE' := hid (heap_grow HE.out hB_)
  clear hB_ HBE HE y0 y1 y2 y3 y4 HCV
  have HBE := HBE'
  have HE := HE'
  clear HBE' HE'
  clear W6
  by_cases hcv : covI (keptOf l) l < (l.length : Int)
  · have dc : decide (covI (keptOf l) l < (l.length : Int)) = true := decide_eq_true hcv
    have hres : mostV ho fi l lot = (0, 0) := by rw [HMV4.out, if_pos hcv]
    clear hcv
    have HRS := hid (show mostV ho fi l lot = (0, 0) from hres)
    clear hres
    go_wp2
    refine bodyPost_ret (v := .tuple #[.int .i64 0, .int .i64 0]) (by simp [results, Tryz.results15, go_sem]) rfl ⟨by rw [HRS.out], HBE.out⟩
  have dc : decide (covI (keptOf l) l < (l.length : Int)) = false := decide_eq_false hcv
  obtain ⟨p, hpp⟩ : ∃ p, (keptOf l).ps.getD ca z88 = p := ⟨_, rfl⟩
  have HMV5 := hid (show mostV ho fi l lot = (((mostN p sp.f1 1000 : Nat) : Int), 0) by
    rw [HMV4.out, if_neg hcv, HAT.out]
    simp only [Int.toNat_natCast]
    rw [hpp])
  have HPOK := hid (show POk 256000000000 p by rw [← hpp]; exact getD_ok (sok_all HV.out).ps (POk.z (by decide)) ca)
  have HSPB := hid (show 0 ≤ sp.f1 ∧ sp.f1 ≤ 1000000 by
    have := at_ok (sok_all HV.out) lot
    rw [HAT.out] at this
    simp only at this
    omega)
  have HPP := hid hpp
  clear hcv HMV4 hpp
  have y0 := blkCell HE.out 0
  have y1 := blkCell HE.out 1
  have y2 := blkCell HE.out 2
  have y3 := blkCell HE.out 3
  have y4 := blkCell HE.out 4
  simp at y0 y1 y2 y3 y4
  go_wp2_with fail
  clear dc
  refine (periodsR_any ho fi A c l _ (Kd.C_below HR.out HBE.out) HC.out HV.out).mono ?_
  rintro e W7 ⟨vp, vh, rfl, hrp, hrh, hb⟩
  obtain ⟨gp, cp, hvp⟩ : ∃ gp cp, vp = .slice (some ⟨gp, 0, none⟩) (keptOf l).ps.length cp := by
    rcases hrp.2 with ⟨h1, h2⟩ | ⟨g1, c1, u1, h1, _⟩
    · have := HPL.out; omega
    · exact ⟨g1, c1, h1⟩
  subst hvp
  have HRP := hid (own_lower (Nat.zero_le _) hrp)
  have HBE' := hid (HBE.out.trans (hb.mono HBE.out.size))
  have HE' := hid (heap_grow HE.out hb)
  clear hb hrp hrh HBE HE y0 y1 y2 y3 y4
  have HBE := HBE'
  have HE := HE'
  clear HBE' HE'
  have y0 := blkCell HE.out 0
  have y1 := blkCell HE.out 1
  have y2 := blkCell HE.out 2
  have y3 := blkCell HE.out 3
  have y4 := blkCell HE.out 4
  simp at y0 y1 y2 y3 y4
  have hper := periodR_any A c l a W7 (Kd.C_below HR.out HBE.out) HC.out (by have := HAL.out; omega) (by have := HL.out; omega)
  rw [HCA.out] at hper
  have HPR := hid hper
  clear hper
  go_wp2_with fail
  refine HPR.out.mono ?_
  rintro e W8 ⟨rfl, hb⟩
  have HRP8 := hid (rings_set HRP.out hb)
  have HBE' := hid (HBE.out.trans (hb.mono HBE.out.size))
  have HE' := hid (heap_grow HE.out hb)
  clear hb HRP HBE HE y0 y1 y2 y3 y4 HPR
  have HBE := HBE'
  have HE := HE'
  clear HBE' HE'
  have hq : ∀ j, j < 9 → W8.cell? ⟨gp, ca * 9 + j, none⟩ = (pC p)[j]? := fun j hj => by
    have e := HRP8.out.cellAt (ca * 9 + j) (by have := HPL.out; omega)
    rw [pF_at HPL.out hj, HPP.out] at e; exact e
  have q0 : W8.cell? ⟨gp, ca * 9, none⟩ = some (.int .i64 p.f0.f0) := hq 0 (by omega)
  have q1 := hq 1 (by omega)
  have q2 := hq 2 (by omega)
  have q3 := hq 3 (by omega)
  have q4 := hq 4 (by omega)
  have q5 := hq 5 (by omega)
  have q6 := hq 6 (by omega)
  have q7 := hq 7 (by omega)
  have q8 := hq 8 (by omega)
  simp [pC] at q1 q2 q3 q4 q5 q6 q7 q8
  have hpl2 : (ca : Int) < ((keptOf l).ps.length : Int) := by have := HPL.out; omega
  have hpl3 := HPL.out
  clear hq
  have hgr := (Below.refl W8.heap.size W8).alloc (Nat.le_refl _) (.cells #[.int .i64 p.f0.f0, .int .i64 p.f0.f1, .int .i64 p.f1.f0, .int .i64 p.f1.f1, .int .i64 p.f2.f0, .int .i64 p.f2.f1, .int .i64 p.f3.f0, .int .i64 p.f3.f1, .int .i64 p.f4] 88)
  have HE10 := hid (World.alloc_heap_new W8 (.cells #[.int .i64 p.f0.f0, .int .i64 p.f0.f1, .int .i64 p.f1.f0, .int .i64 p.f1.f1, .int .i64 p.f2.f0, .int .i64 p.f2.f1, .int .i64 p.f3.f0, .int .i64 p.f3.f1, .int .i64 p.f4] 88))
  have HB9 := hid (HBE.out.trans (hgr.mono HBE.out.size))
  have HE9 := hid (heap_grow HE.out hgr)
  have HN8 := hid (show w.heap.size ≤ W8.heap.size from HBE.out.size)
  have HN9 := hid (show w.heap.size ≠ W8.heap.size by have := cell_lt (blkCell HE.out 0); omega)
  clear hgr HE HBE
  go_upto_region 17 with fail
  clear q0 q1 q2 q3 q4 q5 q6 q7 q8 hpl2 hpl3 HRP8
  generalize W8.alloc (.cells #[.int .i64 p.f0.f0, .int .i64 p.f0.f1, .int .i64 p.f1.f0, .int .i64 p.f1.f1, .int .i64 p.f2.f0, .int .i64 p.f2.f1, .int .i64 p.f3.f0, .int .i64 p.f3.f1, .int .i64 p.f4] 88) = W9 at *
  generalize W8.heap.size = B10 at *
  have z8 := blkCell HE10.out 8
  simp at z8
  go_wp2_with fail
  clear z8
  go_loopw [12] (fun v12 X => ∃ s : Nat, s ≤ 1000 ∧ v12 = .int .i64 s ∧ ∃ cv : Int, Hid (X.heap[B10]? = some (.cells #[.int .i64 p.f0.f0, .int .i64 p.f0.f1, .int .i64 p.f1.f0, .int .i64 p.f1.f1, .int .i64 p.f2.f0, .int .i64 p.f2.f1, .int .i64 p.f3.f0, .int .i64 p.f3.f1, .int .i64 cv] 88 (0, 0)) ∧ X.heap[w.heap.size]? = some (.cells #[.int .i64 ho.f0, .int .i64 ho.f1, .int .i64 fi.f0, .int .i64 fi.f1, .slice A l.length c] 26 (0, 0)) ∧ Below w.heap.size w X ∧ mostN p sp.f1 1000 = mostN p sp.f1 s)) (fun v12 _ => (intOf v12).toNat)
  case atStart => exact ⟨1000, by omega, rfl, p.f4, hid ⟨HE10.out, HE9.out, HB9.out, rfl⟩⟩
  case round =>
    obtain ⟨s, hs, rfl, cv, HX⟩ := hrel
    rename World => Wk
    cases s with
    | zero =>
      have HRS := hid (show mostV ho fi l lot = (0, 0) by rw [HMV5.out, HX.out.2.2.2]; rfl)
      have HBF := hid HX.out.2.2.1
      clear HX
      go_wp2
      refine bodyPost_ret (v := .tuple #[.int .i64 0, .int .i64 0]) (by simp [results, Tryz.results15, go_sem]) rfl ⟨by rw [HRS.out], HBF.out⟩
    | succ s =>
      have hs2 : (s : Int) ≤ 999 := by omega
      have hsp1 : (0 : Int) < ((s + 1 : Nat) : Int) := by omega
      obtain ⟨sv, hsv⟩ : ∃ sv : Int, ((s + 1 : Nat) : Int) = sv := ⟨_, rfl⟩
      rw [hsv] at hsp1
      rw [hsv]
      have hsd : decide (0 < sv) = true := decide_eq_true hsp1
      have HSV := hid hsv
      have HS := hid hs2
      obtain ⟨cn, hcn⟩ : ∃ cn, wrap64 (p.f4 + wrap64 (sv * sp.f1)) = cn := ⟨_, rfl⟩
      have hcb : 0 ≤ cn ∧ cn ≤ 1000000000000000 := by
        have a1 := HPOK.out.c0
        have a2 := HPOK.out.c1
        have a3 := HSPB.out
        have t1 : 0 ≤ sv * sp.f1 := Int.mul_nonneg (by omega) (by omega)
        have t2 : sv * sp.f1 ≤ 1000 * 1000000 := Int.mul_le_mul (by omega) (by omega) (by omega) (by omega)
        rw [← hcn, wrap64_id (n := sv * sp.f1) (by omega) (by omega), wrap64_id (by omega) (by omega)]
        omega
      have HCB := hid hcb
      have HMB := hid (show (muchB p cn = true → mostN p sp.f1 (s + 1) = mostN p sp.f1 s) ∧ (muchB p cn = false → mostN p sp.f1 (s + 1) = s + 1) by
        refine ⟨fun h => mostN_yes ?_, fun h => mostN_no ?_⟩
        · rw [show ((s : Int) + 1) = sv by omega, hcn]; exact h
        · rw [show ((s : Int) + 1) = sv by omega, hcn]; exact h)
      have hcc := at_T93 (Kd.C_below HR.out HX.out.2.2.1) a (by omega) (by have := HL.out; have := HAL.out; omega)
      rw [rdP HAL.out] at hcc
      simp only [Int.toNat_natCast] at hcc
      obtain ⟨ad', had, _, _, _, _, _, k5, _⟩ := hcc
      subst had
      rw [HSP.out] at k5
      have hal2 : (a : Int) < (l.length : Int) := by have := HAL.out; omega
      have b4 := blkCell HX.out.2.1 4
      have g8 := blkFrozen HX.out.1 8
      have z8 := blkCell HX.out.1 8
      simp at b4 z8
      have HEn := hid (p8_set HX.out.1 (.int .i64 cn))
      have HBn := hid (set_other (p := ⟨B10, 8, none⟩) (v := .int .i64 cn) (show w.heap.size ≠ B10 from HN9.out) HX.out.2.1)
      have HXn := hid (HX.out.2.2.1.setCell (p := ⟨B10, 8, none⟩) HN8.out (.int .i64 cn))
      have HMN := hid HX.out.2.2.2
      have hcn2 : IntKind.i64.wrap (p.f4 + IntKind.i64.wrap (sv * sp.f1)) = cn := by rw [wrap_i, wrap_i]; exact hcn
      clear hs2 hsv hcb HX
      go_upto_region 22 with fail
      try simp only [hcn, hcn2] at *
      generalize Wk.setCell ⟨B10, 8, none⟩ (.int .i64 cn) = Wm at *
      clear k5 hal2 b4 g8 z8 hcn hcn2
      have HOV := hid (overR_any HPOK.out (by decide) HCB.out.1 HCB.out.2 Wm)
      have z0 := blkCell HEn.out 0
      have z1 := blkCell HEn.out 1
      have z2 := blkCell HEn.out 2
      have z3 := blkCell HEn.out 3
      have z4 := blkCell HEn.out 4
      have z5 := blkCell HEn.out 5
      have z6 := blkCell HEn.out 6
      have z7 := blkCell HEn.out 7
      have z8 := blkCell HEn.out 8
      simp at z0 z1 z2 z3 z4 z5 z6 z7 z8
      go_wp2_with fail
      refine HOV.out.mono ?_
      rintro e Wo ⟨rfl, hb⟩
      have HEo := hid (heap_grow HEn.out hb)
      have HBo := hid (heap_grow HBn.out hb)
      have HXo := hid (HXn.out.trans (hb.mono HXn.out.size))
      clear hb HOV HEn HBn HXn z0 z1 z2 z3 z4 z5 z6 z7 z8
      cases hmb : muchB p cn with
      | true =>
        have HM2 := hid (show mostN p sp.f1 1000 = mostN p sp.f1 s by rw [HMN.out, HMB.out.1 hmb])
        clear hmb
        have hsx : wrap64 (sv - 1) = (s : Int) := by have := HSV.out; rw [wrap64_id (by omega) (by have := HS.out; omega)]; omega
        go_wp2
        go_roundw
        case rel => exact ⟨s, by omega, by first | rfl | (rw [hsx]), cn, hid ⟨HEo.out, HBo.out, HXo.out, HM2.out⟩⟩
        case measure => have := HSV.out; simp [intOf]; omega
      | false =>
        have HRS := hid (show mostV ho fi l lot = (sv, 0) by rw [HMV5.out, HMN.out, HMB.out.2 hmb, HSV.out])
        clear hmb
        go_wp2
        refine bodyPost_ret (v := .tuple #[.int .i64 sv, .int .i64 0]) (by simp [results, Tryz.results15, go_sem]) rfl ⟨by rw [HRS.out], HXo.out⟩
end Go.Proofs.YtbmkbokkmmdjdaaGreat
end
section
namespace Go.Proofs.YtbmkbokkmmdjdaaGreat.Q
open Go.RowKit Go.Proofs.YtbmkbokkmmdjdaaGreatW.PrintWords Go.Proofs.YtbmkbokkmmdjdaaGreatW.PrintLast Go.Proofs.YtbmkbokkmmdjdaaGreatW.PrintMore
attribute [local go_sem] max2_int min2_int max_two min_two max_three min_three max_four min_four   -- for this text's walks alone
set_option linter.unusedVariables false
set_option linter.unusedSimpArgs false

attribute [local go_sem high] eqA23
def culletlaw09_k.f (a0 : Int) (a1 : Int) : Option (Int × Int) := some (a0, a1)
set_option maxHeartbeats 8000000 in
set_option maxRecDepth 100000 in
theorem culletlaw09_k.calls (a0 : Int) (a1 : Int) (r1 : Int) (r2 : Int) (w : World) (h : culletlaw09_k.f a0 a1 = some (r1, r2)) :
    Calls Tryz.prog 51 #[.int .i64 a0, .int .i64 a1] w fun e w' => e = .returned (.agg #[.int .i64 r1, .int .i64 r2]) ∧ Below w.heap.size w w' := by
  have hu23 := Tryz.underlying23
  have HB := Aside0.mk (Below.refl w.heap.size w)
  have H : (some (a0, a1)) = some (r1, r2) := h
  clear h
  simp only [Option.some.injEq, Prod.mk.injEq] at H
  obtain ⟨rfl, rfl⟩ := H
  go_enter Tryz.func51, Tryz.ntmps51
  go_wp2_with (first | ((with_reducible refine gate_dst (N := 4) rfl ?_); refine box_event ?hg (N := 4) ?hd (cs := #[.int .i64 0, .int .i64 0]) (t := 23) ?hr ?_; (case hd => rfl); (case hg => rfl); (case hr => first | (go_simp; done) | (go_simp; rfl)); intro gb103 hg w3 hbox hb; have n0_ := Aside0.mk (below_step (by repeat (first | (with_reducible first | exact HB.out | apply below_alloc | apply pw_below_drewN | apply below_drew1) | exact HB.out)) hb); have n1_ := Aside0.mk (hbox); have n2_ := Aside0.mk ((by rw [hg]; exact (below_size (by repeat (first | (with_reducible first | exact HB.out | apply below_alloc | apply pw_below_drewN | apply below_drew1) | exact HB.out))) : w.heap.size ≤ gb103)); have n3_ := Aside0.mk ((by rw [hg]; exact (below_size (by repeat (first | (with_reducible first | exact HB.out | apply below_alloc | apply pw_below_drewN | apply below_drew1) | exact HB.out))) : w.heap.size ≤ gb103)); clear HB; have HB := n0_; have BK103 := n1_; have GW103 := n2_; have GE103 := n3_; clear n0_ n1_ n2_ n3_; clear hb hbox hg; have hcz4_0 : w3.cell? ⟨gb103, 0, none⟩ = some (.int .i64 0) := (blk_cell BK103.out 0).trans rfl; have hcz4_1 : w3.cell? ⟨gb103, 1, none⟩ = some (.int .i64 0) := (blk_cell BK103.out 1).trans rfl; have hfz4_0 := blk_frozen BK103.out 0; have hfz4_1 := blk_frozen BK103.out 1))
  refine bodyPost_ret (results_cell_row rfl _ _ gb103 23 #[.int .i64 a0, .int .i64 a1] (0, 0) _ rfl (by (with_reducible repeat (first | refine blk_drewN ?_ _ | refine blk_drew ?_ | refine blk_alloc ?_ _)); refine blk_put (cs := #[.int .i64 a0, .int .i64 0]) ?_ 1 _ rfl; (with_reducible repeat (first | refine blk_drewN ?_ _ | refine blk_drew ?_ | refine blk_alloc ?_ _)); refine blk_put (cs := #[.int .i64 0, .int .i64 0]) ?_ 0 _ rfl; (with_reducible repeat (first | refine blk_drewN ?_ _ | refine blk_drew ?_ | refine blk_alloc ?_ _)); exact BK103.out) Tryz.underlying23 rfl (by kernel_rfl)) rfl ?_
  exact ⟨by first | rfl | (simp [errW_none, errW_some] <;> rfl) | (simp [*, errW_none, errW_some] <;> rfl), by repeat (first | (with_reducible first | exact HB.out | apply below_alloc | apply pw_below_drewN | apply below_drew1 | refine below_set ?_ GE103.out) | exact HB.out)⟩

end Go.Proofs.YtbmkbokkmmdjdaaGreat.Q
end
section
namespace Go.Proofs.YtbmkbokkmmdjdaaGreat.Q
open Go.RowKit Go.Proofs.YtbmkbokkmmdjdaaGreatW.PrintWords Go.Proofs.YtbmkbokkmmdjdaaGreatW.PrintLast Go.Proofs.YtbmkbokkmmdjdaaGreatW.PrintMore
attribute [local go_sem] max2_int min2_int max_two min_two max_three min_three max_four min_four   -- for this text's walks alone
set_option linter.unusedVariables false
set_option linter.unusedSimpArgs false

attribute [local go_sem high] eqA23
def culletlaw09_year.f  : Option (Int × Int × Int × Int × (List (S93))) := (culletlaw09_k.f 900 1300).bind fun bt105 => ((culletlaw09_k.f 1000 1000).bind fun bt107 => ((culletlaw09_k.f 500 500).bind fun bt109 => ((culletlaw09_k.f 600 700).bind fun bt111 => ((culletlaw09_k.f 200 210).bind fun bt113 => ((culletlaw09_k.f 190 200).bind fun bt115 => ((culletlaw09_k.f 180 180).bind fun bt117 => (some (bt105.1, bt105.2, bt107.1, bt107.2, (([(⟨0, 1, 0, 0, (⟨bt109.1, bt109.2⟩ : S23), (⟨bt111.1, bt111.2⟩ : S23), (⟨0, 0⟩ : S23), 0⟩ : S93), (⟨0, 2, 0, 0, (⟨bt113.1, bt113.2⟩ : S23), (⟨0, 0⟩ : S23), (⟨0, 0⟩ : S23), 0⟩ : S93), (⟨0, 3, 0, 0, (⟨bt115.1, bt115.2⟩ : S23), (⟨0, 0⟩ : S23), (⟨0, 0⟩ : S23), 0⟩ : S93), (⟨0, 4, 0, 7, (⟨bt117.1, bt117.2⟩ : S23), (⟨0, 0⟩ : S23), (⟨0, 0⟩ : S23), 0⟩ : S93), (⟨0, 6, 0, 0, (⟨0, 0⟩ : S23), (⟨0, 0⟩ : S23), (⟨0, 0⟩ : S23), 0⟩ : S93)] : List (S93)))))))))))
set_option maxHeartbeats 8000000 in
set_option maxRecDepth 100000 in
theorem culletlaw09_year.calls  (r1 : Int) (r2 : Int) (r3 : Int) (r4 : Int) (r5 : List (S93)) (w : World) (h : culletlaw09_year.f  = some (r1, r2, r3, r4, r5)) :
    Calls Tryz.prog 23 #[] w fun e w' => ∃ v4_ : Value, e = .returned (.agg #[.int .i64 r1, .int .i64 r2, .int .i64 r3, .int .i64 r4, v4_]) ∧ Kd.R k93 93 w' w.heap.size (fun _ => True) v4_ r5 ∧ Below w.heap.size w w' := by
  have hu26 := Tryz.underlying26
  have hu93 := Tryz.underlying93
  have HB := Aside0.mk (Below.refl w.heap.size w)
  have H : ((culletlaw09_k.f 900 1300).bind fun bt105 => ((culletlaw09_k.f 1000 1000).bind fun bt107 => ((culletlaw09_k.f 500 500).bind fun bt109 => ((culletlaw09_k.f 600 700).bind fun bt111 => ((culletlaw09_k.f 200 210).bind fun bt113 => ((culletlaw09_k.f 190 200).bind fun bt115 => ((culletlaw09_k.f 180 180).bind fun bt117 => (some (bt105.1, bt105.2, bt107.1, bt107.2, (([(⟨0, 1, 0, 0, (⟨bt109.1, bt109.2⟩ : S23), (⟨bt111.1, bt111.2⟩ : S23), (⟨0, 0⟩ : S23), 0⟩ : S93), (⟨0, 2, 0, 0, (⟨bt113.1, bt113.2⟩ : S23), (⟨0, 0⟩ : S23), (⟨0, 0⟩ : S23), 0⟩ : S93), (⟨0, 3, 0, 0, (⟨bt115.1, bt115.2⟩ : S23), (⟨0, 0⟩ : S23), (⟨0, 0⟩ : S23), 0⟩ : S93), (⟨0, 4, 0, 7, (⟨bt117.1, bt117.2⟩ : S23), (⟨0, 0⟩ : S23), (⟨0, 0⟩ : S23), 0⟩ : S93), (⟨0, 6, 0, 0, (⟨0, 0⟩ : S23), (⟨0, 0⟩ : S23), (⟨0, 0⟩ : S23), 0⟩ : S93)] : List (S93)))))))))))) = some (r1, r2, r3, r4, r5) := h
  clear h
  replace H := Option.bind_eq_some_iff.mp H
  obtain ⟨⟨t105, t106⟩, A10, H⟩ := H
  replace H : ((culletlaw09_k.f 1000 1000).bind fun bt107 => ((culletlaw09_k.f 500 500).bind fun bt109 => ((culletlaw09_k.f 600 700).bind fun bt111 => ((culletlaw09_k.f 200 210).bind fun bt113 => ((culletlaw09_k.f 190 200).bind fun bt115 => ((culletlaw09_k.f 180 180).bind fun bt117 => (some (t105, t106, bt107.1, bt107.2, (([(⟨0, 1, 0, 0, (⟨bt109.1, bt109.2⟩ : S23), (⟨bt111.1, bt111.2⟩ : S23), (⟨0, 0⟩ : S23), 0⟩ : S93), (⟨0, 2, 0, 0, (⟨bt113.1, bt113.2⟩ : S23), (⟨0, 0⟩ : S23), (⟨0, 0⟩ : S23), 0⟩ : S93), (⟨0, 3, 0, 0, (⟨bt115.1, bt115.2⟩ : S23), (⟨0, 0⟩ : S23), (⟨0, 0⟩ : S23), 0⟩ : S93), (⟨0, 4, 0, 7, (⟨bt117.1, bt117.2⟩ : S23), (⟨0, 0⟩ : S23), (⟨0, 0⟩ : S23), 0⟩ : S93), (⟨0, 6, 0, 0, (⟨0, 0⟩ : S23), (⟨0, 0⟩ : S23), (⟨0, 0⟩ : S23), 0⟩ : S93)] : List (S93))))))))))) = some (r1, r2, r3, r4, r5) := H
  have A1 := Aside0.mk A10
  clear A10
  replace H := Option.bind_eq_some_iff.mp H
  obtain ⟨⟨t107, t108⟩, A20, H⟩ := H
  replace H : ((culletlaw09_k.f 500 500).bind fun bt109 => ((culletlaw09_k.f 600 700).bind fun bt111 => ((culletlaw09_k.f 200 210).bind fun bt113 => ((culletlaw09_k.f 190 200).bind fun bt115 => ((culletlaw09_k.f 180 180).bind fun bt117 => (some (t105, t106, t107, t108, (([(⟨0, 1, 0, 0, (⟨bt109.1, bt109.2⟩ : S23), (⟨bt111.1, bt111.2⟩ : S23), (⟨0, 0⟩ : S23), 0⟩ : S93), (⟨0, 2, 0, 0, (⟨bt113.1, bt113.2⟩ : S23), (⟨0, 0⟩ : S23), (⟨0, 0⟩ : S23), 0⟩ : S93), (⟨0, 3, 0, 0, (⟨bt115.1, bt115.2⟩ : S23), (⟨0, 0⟩ : S23), (⟨0, 0⟩ : S23), 0⟩ : S93), (⟨0, 4, 0, 7, (⟨bt117.1, bt117.2⟩ : S23), (⟨0, 0⟩ : S23), (⟨0, 0⟩ : S23), 0⟩ : S93), (⟨0, 6, 0, 0, (⟨0, 0⟩ : S23), (⟨0, 0⟩ : S23), (⟨0, 0⟩ : S23), 0⟩ : S93)] : List (S93)))))))))) = some (r1, r2, r3, r4, r5) := H
  have A2 := Aside0.mk A20
  clear A20
  replace H := Option.bind_eq_some_iff.mp H
  obtain ⟨⟨t109, t110⟩, A30, H⟩ := H
  replace H : ((culletlaw09_k.f 600 700).bind fun bt111 => ((culletlaw09_k.f 200 210).bind fun bt113 => ((culletlaw09_k.f 190 200).bind fun bt115 => ((culletlaw09_k.f 180 180).bind fun bt117 => (some (t105, t106, t107, t108, (([(⟨0, 1, 0, 0, (⟨t109, t110⟩ : S23), (⟨bt111.1, bt111.2⟩ : S23), (⟨0, 0⟩ : S23), 0⟩ : S93), (⟨0, 2, 0, 0, (⟨bt113.1, bt113.2⟩ : S23), (⟨0, 0⟩ : S23), (⟨0, 0⟩ : S23), 0⟩ : S93), (⟨0, 3, 0, 0, (⟨bt115.1, bt115.2⟩ : S23), (⟨0, 0⟩ : S23), (⟨0, 0⟩ : S23), 0⟩ : S93), (⟨0, 4, 0, 7, (⟨bt117.1, bt117.2⟩ : S23), (⟨0, 0⟩ : S23), (⟨0, 0⟩ : S23), 0⟩ : S93), (⟨0, 6, 0, 0, (⟨0, 0⟩ : S23), (⟨0, 0⟩ : S23), (⟨0, 0⟩ : S23), 0⟩ : S93)] : List (S93))))))))) = some (r1, r2, r3, r4, r5) := H
  have A3 := Aside0.mk A30
  clear A30
  replace H := Option.bind_eq_some_iff.mp H
  obtain ⟨⟨t111, t112⟩, A40, H⟩ := H
  replace H : ((culletlaw09_k.f 200 210).bind fun bt113 => ((culletlaw09_k.f 190 200).bind fun bt115 => ((culletlaw09_k.f 180 180).bind fun bt117 => (some (t105, t106, t107, t108, (([(⟨0, 1, 0, 0, (⟨t109, t110⟩ : S23), (⟨t111, t112⟩ : S23), (⟨0, 0⟩ : S23), 0⟩ : S93), (⟨0, 2, 0, 0, (⟨bt113.1, bt113.2⟩ : S23), (⟨0, 0⟩ : S23), (⟨0, 0⟩ : S23), 0⟩ : S93), (⟨0, 3, 0, 0, (⟨bt115.1, bt115.2⟩ : S23), (⟨0, 0⟩ : S23), (⟨0, 0⟩ : S23), 0⟩ : S93), (⟨0, 4, 0, 7, (⟨bt117.1, bt117.2⟩ : S23), (⟨0, 0⟩ : S23), (⟨0, 0⟩ : S23), 0⟩ : S93), (⟨0, 6, 0, 0, (⟨0, 0⟩ : S23), (⟨0, 0⟩ : S23), (⟨0, 0⟩ : S23), 0⟩ : S93)] : List (S93)))))))) = some (r1, r2, r3, r4, r5) := H
  have A4 := Aside0.mk A40
  clear A40
  replace H := Option.bind_eq_some_iff.mp H
  obtain ⟨⟨t113, t114⟩, A50, H⟩ := H
  replace H : ((culletlaw09_k.f 190 200).bind fun bt115 => ((culletlaw09_k.f 180 180).bind fun bt117 => (some (t105, t106, t107, t108, (([(⟨0, 1, 0, 0, (⟨t109, t110⟩ : S23), (⟨t111, t112⟩ : S23), (⟨0, 0⟩ : S23), 0⟩ : S93), (⟨0, 2, 0, 0, (⟨t113, t114⟩ : S23), (⟨0, 0⟩ : S23), (⟨0, 0⟩ : S23), 0⟩ : S93), (⟨0, 3, 0, 0, (⟨bt115.1, bt115.2⟩ : S23), (⟨0, 0⟩ : S23), (⟨0, 0⟩ : S23), 0⟩ : S93), (⟨0, 4, 0, 7, (⟨bt117.1, bt117.2⟩ : S23), (⟨0, 0⟩ : S23), (⟨0, 0⟩ : S23), 0⟩ : S93), (⟨0, 6, 0, 0, (⟨0, 0⟩ : S23), (⟨0, 0⟩ : S23), (⟨0, 0⟩ : S23), 0⟩ : S93)] : List (S93))))))) = some (r1, r2, r3, r4, r5) := H
  have A5 := Aside0.mk A50
  clear A50
  replace H := Option.bind_eq_some_iff.mp H
  obtain ⟨⟨t115, t116⟩, A60, H⟩ := H
  replace H : ((culletlaw09_k.f 180 180).bind fun bt117 => (some (t105, t106, t107, t108, (([(⟨0, 1, 0, 0, (⟨t109, t110⟩ : S23), (⟨t111, t112⟩ : S23), (⟨0, 0⟩ : S23), 0⟩ : S93), (⟨0, 2, 0, 0, (⟨t113, t114⟩ : S23), (⟨0, 0⟩ : S23), (⟨0, 0⟩ : S23), 0⟩ : S93), (⟨0, 3, 0, 0, (⟨t115, t116⟩ : S23), (⟨0, 0⟩ : S23), (⟨0, 0⟩ : S23), 0⟩ : S93), (⟨0, 4, 0, 7, (⟨bt117.1, bt117.2⟩ : S23), (⟨0, 0⟩ : S23), (⟨0, 0⟩ : S23), 0⟩ : S93), (⟨0, 6, 0, 0, (⟨0, 0⟩ : S23), (⟨0, 0⟩ : S23), (⟨0, 0⟩ : S23), 0⟩ : S93)] : List (S93)))))) = some (r1, r2, r3, r4, r5) := H
  have A6 := Aside0.mk A60
  clear A60
  replace H := Option.bind_eq_some_iff.mp H
  obtain ⟨⟨t117, t118⟩, A70, H⟩ := H
  replace H : (some (t105, t106, t107, t108, (([(⟨0, 1, 0, 0, (⟨t109, t110⟩ : S23), (⟨t111, t112⟩ : S23), (⟨0, 0⟩ : S23), 0⟩ : S93), (⟨0, 2, 0, 0, (⟨t113, t114⟩ : S23), (⟨0, 0⟩ : S23), (⟨0, 0⟩ : S23), 0⟩ : S93), (⟨0, 3, 0, 0, (⟨t115, t116⟩ : S23), (⟨0, 0⟩ : S23), (⟨0, 0⟩ : S23), 0⟩ : S93), (⟨0, 4, 0, 7, (⟨t117, t118⟩ : S23), (⟨0, 0⟩ : S23), (⟨0, 0⟩ : S23), 0⟩ : S93), (⟨0, 6, 0, 0, (⟨0, 0⟩ : S23), (⟨0, 0⟩ : S23), (⟨0, 0⟩ : S23), 0⟩ : S93)] : List (S93))))) = some (r1, r2, r3, r4, r5) := H
  have A7 := Aside0.mk A70
  clear A70
  obtain ⟨y119, hy119⟩ : ∃ y_ : List (S93), y_ = (([(⟨0, 1, 0, 0, (⟨t109, t110⟩ : S23), (⟨t111, t112⟩ : S23), (⟨0, 0⟩ : S23), 0⟩ : S93), (⟨0, 2, 0, 0, (⟨t113, t114⟩ : S23), (⟨0, 0⟩ : S23), (⟨0, 0⟩ : S23), 0⟩ : S93), (⟨0, 3, 0, 0, (⟨t115, t116⟩ : S23), (⟨0, 0⟩ : S23), (⟨0, 0⟩ : S23), 0⟩ : S93), (⟨0, 4, 0, 7, (⟨t117, t118⟩ : S23), (⟨0, 0⟩ : S23), (⟨0, 0⟩ : S23), 0⟩ : S93), (⟨0, 6, 0, 0, (⟨0, 0⟩ : S23), (⟨0, 0⟩ : S23), (⟨0, 0⟩ : S23), 0⟩ : S93)] : List (S93))) := ⟨_, rfl⟩
  replace H : (some (t105, t106, t107, t108, y119)) = some (r1, r2, r3, r4, r5) := by first | (rw [hy119]; with_reducible exact H) | (have H2_ := (Option.bind_some _ _).symm.trans H; rw [hy119]; with_reducible exact H2_) | (have H2_ := (Option.bind_some _ _).symm.trans H; with_reducible exact H2_) | with_reducible exact H | (rw [hy119]; exact H) | exact H
  have Ny119 := Aside0.mk hy119
  clear hy119
  simp only [Option.some.injEq, Prod.mk.injEq] at H
  obtain ⟨rfl, rfl, rfl, rfl, rfl⟩ := H
  go_enter Tryz.func23, Tryz.ntmps23
  go_wp2_with (first | ((with_reducible refine gate_dst (N := 0) rfl ?_); refine box_event ?hg (N := 0) ?hd (cs := #[.int .i64 0, .int .i64 0, .int .i64 0, .int .i64 0, .slice none 0 0]) (t := 26) ?hr ?_; (case hd => rfl); (case hg => rfl); (case hr => first | (go_simp; done) | (go_simp; rfl)); intro gb104 hg w8 hbox hb; have n0_ := Aside0.mk (below_step (by repeat (first | (with_reducible first | exact HB.out | apply below_alloc | apply pw_below_drewN | apply below_drew1) | exact HB.out)) hb); have n1_ := Aside0.mk (hbox); have n2_ := Aside0.mk ((by rw [hg]; exact (below_size (by repeat (first | (with_reducible first | exact HB.out | apply below_alloc | apply pw_below_drewN | apply below_drew1) | exact HB.out))) : w.heap.size ≤ gb104)); have n3_ := Aside0.mk ((by rw [hg]; exact (below_size (by repeat (first | (with_reducible first | exact HB.out | apply below_alloc | apply pw_below_drewN | apply below_drew1) | exact HB.out))) : w.heap.size ≤ gb104)); clear HB; have HB := n0_; have BK104 := n1_; have GW104 := n2_; have GE104 := n3_; clear n0_ n1_ n2_ n3_; clear hb hbox hg) | ((with_reducible refine gate_callee (f := 51) rfl ?_); refine goesL_ (some 1) rfl rfl Tryz.func51 (by kernel_rfl) rfl #[.int .i64 900, .int .i64 1300] rfl (by (try simp only [List.map_toArray, List.map_cons, List.map_nil]); first | done | rfl | (simp only [List.length_drop, List.length_take]; rfl)) ?_; (with_reducible refine (culletlaw09_k.calls 900 1300 t105 t106 _ A1.out).mono ?_); rintro e w9 ⟨rfl, hb⟩; refine ⟨_, rfl, ?_⟩; have n0_ := Aside0.mk (blk_below (g := gb104) (o := .cells #[.int .i64 0, .int .i64 0, .int .i64 0, .int .i64 0, .slice none 0 0] 26 (0, 0)) (by (with_reducible repeat (first | refine blk_drewN ?_ _ | refine blk_drew ?_ | refine blk_alloc ?_ _)); exact BK104.out) hb); have n1_ := Aside0.mk (below_step (by repeat (first | (with_reducible first | exact HB.out | apply below_alloc | apply pw_below_drewN | apply below_drew1 | refine below_set ?_ GE104.out) | exact HB.out)) hb); clear BK104; clear HB; have BK104 := n0_; have HB := n1_; clear n0_ n1_; (try clear hb); (try clear hb2); (try clear hk); (try clear hi)) | ((with_reducible refine gate_callee (f := 51) rfl ?_); refine goesL_ (some 2) rfl rfl Tryz.func51 (by kernel_rfl) rfl #[.int .i64 1000, .int .i64 1000] rfl (by (try simp only [List.map_toArray, List.map_cons, List.map_nil]); first | done | rfl | (simp only [List.length_drop, List.length_take]; rfl)) ?_; (with_reducible refine (culletlaw09_k.calls 1000 1000 t107 t108 _ A2.out).mono ?_); rintro e w10 ⟨rfl, hb⟩; refine ⟨_, rfl, ?_⟩; have n0_ := Aside0.mk (blk_below (g := gb104) (o := .cells #[.int .i64 0, .int .i64 0, .int .i64 0, .int .i64 0, .slice none 0 0] 26 (0, 0)) (by (with_reducible repeat (first | refine blk_drewN ?_ _ | refine blk_drew ?_ | refine blk_alloc ?_ _)); exact BK104.out) hb); have n1_ := Aside0.mk (below_step (by repeat (first | (with_reducible first | exact HB.out | apply below_alloc | apply pw_below_drewN | apply below_drew1 | refine below_set ?_ GE104.out) | exact HB.out)) hb); clear BK104; clear HB; have BK104 := n0_; have HB := n1_; clear n0_ n1_; (try clear hb); (try clear hb2); (try clear hk); (try clear hi)) | ((with_reducible refine gate_callee (f := 51) rfl ?_); refine goesL_ (some 3) rfl rfl Tryz.func51 (by kernel_rfl) rfl #[.int .i64 500, .int .i64 500] rfl (by (try simp only [List.map_toArray, List.map_cons, List.map_nil]); first | done | rfl | (simp only [List.length_drop, List.length_take]; rfl)) ?_; (with_reducible refine (culletlaw09_k.calls 500 500 t109 t110 _ A3.out).mono ?_); rintro e w11 ⟨rfl, hb⟩; refine ⟨_, rfl, ?_⟩; have n0_ := Aside0.mk (blk_below (g := gb104) (o := .cells #[.int .i64 0, .int .i64 0, .int .i64 0, .int .i64 0, .slice none 0 0] 26 (0, 0)) (by (with_reducible repeat (first | refine blk_drewN ?_ _ | refine blk_drew ?_ | refine blk_alloc ?_ _)); exact BK104.out) hb); have n1_ := Aside0.mk (below_step (by repeat (first | (with_reducible first | exact HB.out | apply below_alloc | apply pw_below_drewN | apply below_drew1 | refine below_set ?_ GE104.out) | exact HB.out)) hb); clear BK104; clear HB; have BK104 := n0_; have HB := n1_; clear n0_ n1_; (try clear hb); (try clear hb2); (try clear hk); (try clear hi)) | ((with_reducible refine gate_callee (f := 51) rfl ?_); refine goesL_ (some 4) rfl rfl Tryz.func51 (by kernel_rfl) rfl #[.int .i64 600, .int .i64 700] rfl (by (try simp only [List.map_toArray, List.map_cons, List.map_nil]); first | done | rfl | (simp only [List.length_drop, List.length_take]; rfl)) ?_; (with_reducible refine (culletlaw09_k.calls 600 700 t111 t112 _ A4.out).mono ?_); rintro e w12 ⟨rfl, hb⟩; refine ⟨_, rfl, ?_⟩; have n0_ := Aside0.mk (blk_below (g := gb104) (o := .cells #[.int .i64 0, .int .i64 0, .int .i64 0, .int .i64 0, .slice none 0 0] 26 (0, 0)) (by (with_reducible repeat (first | refine blk_drewN ?_ _ | refine blk_drew ?_ | refine blk_alloc ?_ _)); exact BK104.out) hb); have n1_ := Aside0.mk (below_step (by repeat (first | (with_reducible first | exact HB.out | apply below_alloc | apply pw_below_drewN | apply below_drew1 | refine below_set ?_ GE104.out) | exact HB.out)) hb); clear BK104; clear HB; have BK104 := n0_; have HB := n1_; clear n0_ n1_; (try clear hb); (try clear hb2); (try clear hk); (try clear hi)) | ((with_reducible refine gate_callee (f := 51) rfl ?_); refine goesL_ (some 6) rfl rfl Tryz.func51 (by kernel_rfl) rfl #[.int .i64 200, .int .i64 210] rfl (by (try simp only [List.map_toArray, List.map_cons, List.map_nil]); first | done | rfl | (simp only [List.length_drop, List.length_take]; rfl)) ?_; (with_reducible refine (culletlaw09_k.calls 200 210 t113 t114 _ A5.out).mono ?_); rintro e w13 ⟨rfl, hb⟩; refine ⟨_, rfl, ?_⟩; have n0_ := Aside0.mk (blk_below (g := gb104) (o := .cells #[.int .i64 0, .int .i64 0, .int .i64 0, .int .i64 0, .slice none 0 0] 26 (0, 0)) (by (with_reducible repeat (first | refine blk_drewN ?_ _ | refine blk_drew ?_ | refine blk_alloc ?_ _)); exact BK104.out) hb); have n1_ := Aside0.mk (below_step (by repeat (first | (with_reducible first | exact HB.out | apply below_alloc | apply pw_below_drewN | apply below_drew1 | refine below_set ?_ GE104.out) | exact HB.out)) hb); clear BK104; clear HB; have BK104 := n0_; have HB := n1_; clear n0_ n1_; (try clear hb); (try clear hb2); (try clear hk); (try clear hi)) | ((with_reducible refine gate_callee (f := 51) rfl ?_); refine goesL_ (some 8) rfl rfl Tryz.func51 (by kernel_rfl) rfl #[.int .i64 190, .int .i64 200] rfl (by (try simp only [List.map_toArray, List.map_cons, List.map_nil]); first | done | rfl | (simp only [List.length_drop, List.length_take]; rfl)) ?_; (with_reducible refine (culletlaw09_k.calls 190 200 t115 t116 _ A6.out).mono ?_); rintro e w14 ⟨rfl, hb⟩; refine ⟨_, rfl, ?_⟩; have n0_ := Aside0.mk (blk_below (g := gb104) (o := .cells #[.int .i64 0, .int .i64 0, .int .i64 0, .int .i64 0, .slice none 0 0] 26 (0, 0)) (by (with_reducible repeat (first | refine blk_drewN ?_ _ | refine blk_drew ?_ | refine blk_alloc ?_ _)); exact BK104.out) hb); have n1_ := Aside0.mk (below_step (by repeat (first | (with_reducible first | exact HB.out | apply below_alloc | apply pw_below_drewN | apply below_drew1 | refine below_set ?_ GE104.out) | exact HB.out)) hb); clear BK104; clear HB; have BK104 := n0_; have HB := n1_; clear n0_ n1_; (try clear hb); (try clear hb2); (try clear hk); (try clear hi)) | ((with_reducible refine gate_callee (f := 51) rfl ?_); refine goesL_ (some 10) rfl rfl Tryz.func51 (by kernel_rfl) rfl #[.int .i64 180, .int .i64 180] rfl (by (try simp only [List.map_toArray, List.map_cons, List.map_nil]); first | done | rfl | (simp only [List.length_drop, List.length_take]; rfl)) ?_; (with_reducible refine (culletlaw09_k.calls 180 180 t117 t118 _ A7.out).mono ?_); rintro e w15 ⟨rfl, hb⟩; refine ⟨_, rfl, ?_⟩; have n0_ := Aside0.mk (blk_below (g := gb104) (o := .cells #[.int .i64 0, .int .i64 0, .int .i64 0, .int .i64 0, .slice none 0 0] 26 (0, 0)) (by (with_reducible repeat (first | refine blk_drewN ?_ _ | refine blk_drew ?_ | refine blk_alloc ?_ _)); exact BK104.out) hb); have n1_ := Aside0.mk (below_step (by repeat (first | (with_reducible first | exact HB.out | apply below_alloc | apply pw_below_drewN | apply below_drew1 | refine below_set ?_ GE104.out) | exact HB.out)) hb); clear BK104; clear HB; have BK104 := n0_; have HB := n1_; clear n0_ n1_; (try clear hb); (try clear hb2); (try clear hk); (try clear hi)) | ((with_reducible refine gate_dst (N := 13) rfl ?_); refine Kd.R_lit k93 _ 93 ?hg (N := 13) ?hd (xs := ([(⟨0, 1, 0, 0, (⟨t109, t110⟩ : S23), (⟨t111, t112⟩ : S23), (⟨0, 0⟩ : S23), 0⟩ : S93), (⟨0, 2, 0, 0, (⟨t113, t114⟩ : S23), (⟨0, 0⟩ : S23), (⟨0, 0⟩ : S23), 0⟩ : S93), (⟨0, 3, 0, 0, (⟨t115, t116⟩ : S23), (⟨0, 0⟩ : S23), (⟨0, 0⟩ : S23), 0⟩ : S93), (⟨0, 4, 0, 7, (⟨t117, t118⟩ : S23), (⟨0, 0⟩ : S23), (⟨0, 0⟩ : S23), 0⟩ : S93), (⟨0, 6, 0, 0, (⟨0, 0⟩ : S23), (⟨0, 0⟩ : S23), (⟨0, 0⟩ : S23), 0⟩ : S93)] : List (S93))) (inner := [.int .i64 0, .int .u8 1, .int .i64 0, .int .i64 0, .int .i64 t109, .int .i64 t110, .int .i64 t111, .int .i64 t112, .int .i64 0, .int .i64 0, .int .i64 0, .int .i64 0, .int .u8 2, .int .i64 0, .int .i64 0, .int .i64 t113, .int .i64 t114, .int .i64 0, .int .i64 0, .int .i64 0, .int .i64 0, .int .i64 0, .int .i64 0, .int .u8 3, .int .i64 0, .int .i64 0, .int .i64 t115, .int .i64 t116, .int .i64 0, .int .i64 0, .int .i64 0, .int .i64 0, .int .i64 0, .int .i64 0, .int .u8 4, .int .i64 0, .int .i64 7, .int .i64 t117, .int .i64 t118, .int .i64 0, .int .i64 0, .int .i64 0, .int .i64 0, .int .i64 0, .int .i64 0, .int .u8 6, .int .i64 0, .int .i64 0, .int .i64 0, .int .i64 0, .int .i64 0, .int .i64 0, .int .i64 0, .int .i64 0, .int .i64 0]) (ok := fun _ => True) (okp := fun _ => True) ?hr ?hp (fun _ hk => hk) trivial (Below.refl _ _) (Nat.le_refl _) (by simp) ?_; (case hd => rfl); (case hg => rfl); (case hr => first | (go_simp; done) | (go_simp; rfl)); (case hp => exact (Reps.front (show Kd.M k93 _ _ _ (⟨0, 1, 0, 0, (⟨t109, t110⟩ : S23), (⟨t111, t112⟩ : S23), (⟨0, 0⟩ : S23), 0⟩ : S93) [.int .i64 0, .int .u8 1, .int .i64 0, .int .i64 0, .int .i64 t109, .int .i64 t110, .int .i64 t111, .int .i64 t112, .int .i64 0, .int .i64 0, .int .i64 0] from (k93_mkM _ _ _ (⟨0, 1, 0, 0, (⟨t109, t110⟩ : S23), (⟨t111, t112⟩ : S23), (⟨0, 0⟩ : S23), 0⟩ : S93) )) rfl (Reps.front (show Kd.M k93 _ _ _ (⟨0, 2, 0, 0, (⟨t113, t114⟩ : S23), (⟨0, 0⟩ : S23), (⟨0, 0⟩ : S23), 0⟩ : S93) [.int .i64 0, .int .u8 2, .int .i64 0, .int .i64 0, .int .i64 t113, .int .i64 t114, .int .i64 0, .int .i64 0, .int .i64 0, .int .i64 0, .int .i64 0] from (k93_mkM _ _ _ (⟨0, 2, 0, 0, (⟨t113, t114⟩ : S23), (⟨0, 0⟩ : S23), (⟨0, 0⟩ : S23), 0⟩ : S93) )) rfl (Reps.front (show Kd.M k93 _ _ _ (⟨0, 3, 0, 0, (⟨t115, t116⟩ : S23), (⟨0, 0⟩ : S23), (⟨0, 0⟩ : S23), 0⟩ : S93) [.int .i64 0, .int .u8 3, .int .i64 0, .int .i64 0, .int .i64 t115, .int .i64 t116, .int .i64 0, .int .i64 0, .int .i64 0, .int .i64 0, .int .i64 0] from (k93_mkM _ _ _ (⟨0, 3, 0, 0, (⟨t115, t116⟩ : S23), (⟨0, 0⟩ : S23), (⟨0, 0⟩ : S23), 0⟩ : S93) )) rfl (Reps.front (show Kd.M k93 _ _ _ (⟨0, 4, 0, 7, (⟨t117, t118⟩ : S23), (⟨0, 0⟩ : S23), (⟨0, 0⟩ : S23), 0⟩ : S93) [.int .i64 0, .int .u8 4, .int .i64 0, .int .i64 7, .int .i64 t117, .int .i64 t118, .int .i64 0, .int .i64 0, .int .i64 0, .int .i64 0, .int .i64 0] from (k93_mkM _ _ _ (⟨0, 4, 0, 7, (⟨t117, t118⟩ : S23), (⟨0, 0⟩ : S23), (⟨0, 0⟩ : S23), 0⟩ : S93) )) rfl (Reps.front (show Kd.M k93 _ _ _ (⟨0, 6, 0, 0, (⟨0, 0⟩ : S23), (⟨0, 0⟩ : S23), (⟨0, 0⟩ : S23), 0⟩ : S93) [.int .i64 0, .int .u8 6, .int .i64 0, .int .i64 0, .int .i64 0, .int .i64 0, .int .i64 0, .int .i64 0, .int .i64 0, .int .i64 0, .int .i64 0] from (k93_mkM _ _ _ (⟨0, 6, 0, 0, (⟨0, 0⟩ : S23), (⟨0, 0⟩ : S23), (⟨0, 0⟩ : S23), 0⟩ : S93) )) rfl (Reps.none _ _) rfl) rfl) rfl) rfl) rfl)); intro v120 w16 ho17 hb hg_ hnew_; clear hg_ hnew_; (first | rw [← Ny119.out] at ho17 | (simp only [Int.reduceToNat] at ho17; rw [← Ny119.out] at ho17)); have n0_ := Aside0.mk (Kd.R_lower ho17 (below_size (by repeat (first | (with_reducible first | exact HB.out | apply below_alloc | apply pw_below_drewN | apply below_drew1 | refine below_set ?_ GE104.out) | exact HB.out)))); have n1_ := Aside0.mk (blk_below (g := gb104) (o := .cells #[.int .i64 0, .int .i64 0, .int .i64 0, .int .i64 0, .slice none 0 0] 26 (0, 0)) (by (with_reducible repeat (first | refine blk_drewN ?_ _ | refine blk_drew ?_ | refine blk_alloc ?_ _)); exact BK104.out) hb); have n2_ := Aside0.mk (below_step (by repeat (first | (with_reducible first | exact HB.out | apply below_alloc | apply pw_below_drewN | apply below_drew1 | refine below_set ?_ GE104.out) | exact HB.out)) hb); clear BK104; clear HB; have HO121 := n0_; have BK104 := n1_; have HB := n2_; clear n0_ n1_ n2_; clear hb ho17; obtain ⟨Ao18, co18, eo18⟩ := Kd.R_slice HO121.out; subst eo18; have hcz19_0 : w16.cell? ⟨gb104, 0, none⟩ = some (.int .i64 0) := (blk_cell BK104.out 0).trans rfl; have hcz19_1 : w16.cell? ⟨gb104, 1, none⟩ = some (.int .i64 0) := (blk_cell BK104.out 1).trans rfl; have hcz19_2 : w16.cell? ⟨gb104, 2, none⟩ = some (.int .i64 0) := (blk_cell BK104.out 2).trans rfl; have hcz19_3 : w16.cell? ⟨gb104, 3, none⟩ = some (.int .i64 0) := (blk_cell BK104.out 3).trans rfl; have hcz19_4 : w16.cell? ⟨gb104, 4, none⟩ = some (.slice none 0 0) := (blk_cell BK104.out 4).trans rfl; have hfz19_0 := blk_frozen BK104.out 0; have hfz19_1 := blk_frozen BK104.out 1; have hfz19_2 := blk_frozen BK104.out 2; have hfz19_3 := blk_frozen BK104.out 3; have hfz19_4 := blk_frozen BK104.out 4))
  refine bodyPost_ret (results_cell_row rfl _ _ gb104 26 #[.int .i64 t105, .int .i64 t106, .int .i64 t107, .int .i64 t108, .slice Ao18 y119.length co18] (0, 0) _ rfl (by (with_reducible repeat (first | refine blk_drewN ?_ _ | refine blk_drew ?_ | refine blk_alloc ?_ _)); refine blk_put (cs := #[.int .i64 t105, .int .i64 t106, .int .i64 t107, .int .i64 t108, .slice none 0 0]) ?_ 4 _ rfl; (with_reducible repeat (first | refine blk_drewN ?_ _ | refine blk_drew ?_ | refine blk_alloc ?_ _)); refine blk_put (cs := #[.int .i64 t105, .int .i64 t106, .int .i64 t107, .int .i64 0, .slice none 0 0]) ?_ 3 _ rfl; (with_reducible repeat (first | refine blk_drewN ?_ _ | refine blk_drew ?_ | refine blk_alloc ?_ _)); refine blk_put (cs := #[.int .i64 t105, .int .i64 t106, .int .i64 0, .int .i64 0, .slice none 0 0]) ?_ 2 _ rfl; (with_reducible repeat (first | refine blk_drewN ?_ _ | refine blk_drew ?_ | refine blk_alloc ?_ _)); refine blk_put (cs := #[.int .i64 t105, .int .i64 0, .int .i64 0, .int .i64 0, .slice none 0 0]) ?_ 1 _ rfl; (with_reducible repeat (first | refine blk_drewN ?_ _ | refine blk_drew ?_ | refine blk_alloc ?_ _)); refine blk_put (cs := #[.int .i64 0, .int .i64 0, .int .i64 0, .int .i64 0, .slice none 0 0]) ?_ 0 _ rfl; (with_reducible repeat (first | refine blk_drewN ?_ _ | refine blk_drew ?_ | refine blk_alloc ?_ _)); exact BK104.out) Tryz.underlying26 rfl (by kernel_rfl)) rfl ?_
  exact ⟨_, by first | rfl | (simp [errW_none, errW_some] <;> rfl) | (simp [*, errW_none, errW_some] <;> rfl), by (with_reducible repeat (first | apply Kd.R_alloc | apply Kd.R_drewN | apply Kd.R_drew)); exact Kd.R_mono (Kd.R_far (p := ⟨gb104, 4, none⟩) (Kd.R_far (p := ⟨gb104, 3, none⟩) (Kd.R_far (p := ⟨gb104, 2, none⟩) (Kd.R_far (p := ⟨gb104, 1, none⟩) (Kd.R_far (p := ⟨gb104, 0, none⟩) (Kd.R_types HO121.out BK104.out (by decide)) (fun _ hk => hk.2) (.int .i64 t105)) (fun _ hk => hk.2) (.int .i64 t106)) (fun _ hk => hk.2) (.int .i64 t107)) (fun _ hk => hk.2) (.int .i64 t108)) (fun _ hk => hk.2) (.slice Ao18 y119.length co18)) (fun _ hk => trivial), by repeat (first | (with_reducible first | exact HB.out | apply below_alloc | apply pw_below_drewN | apply below_drew1 | refine below_set ?_ GE104.out) | exact HB.out)⟩

end Go.Proofs.YtbmkbokkmmdjdaaGreat.Q
end
