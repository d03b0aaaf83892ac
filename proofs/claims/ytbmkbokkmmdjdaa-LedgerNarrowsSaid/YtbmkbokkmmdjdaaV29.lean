-- D10 (wip/pack9.py)
import Derived.Test.YtbmkbokkmmdjdaaV28
section
namespace Go.Proofs.Ytbmkbokkmmdjdaa
open Go.RowKit Go.Proofs.YtbmkbokkmmdjdaaW.PrintWords Go.Proofs.YtbmkbokkmmdjdaaW.PrintLast Go.Proofs.YtbmkbokkmmdjdaaW.PrintMore
open Q Go.Shelf
attribute [local go_sem] Oper.semAt_some wide_depth wide_fn
set_option linter.unusedVariables false
set_option linter.unusedSimpArgs false

theorem Ahead.of4 {ops : Array Oper} {q : Nat} {T a : Act} (lo hi lo2 hi2 : Nat) (hs : a.tmps.size = T.tmps.size) (hd : a.defers = T.defers) (hl : (aheadB ops q T.tmps.size).all (fun t => decide (t < lo) || (decide (hi ≤ t) && decide (t < lo2)) || decide (hi2 ≤ t)) = true)
    (h1 : a.tmps.toList.take lo = T.tmps.toList.take lo) (h2 : (a.tmps.toList.drop hi).take (lo2 - hi) = (T.tmps.toList.drop hi).take (lo2 - hi)) (h3 : a.tmps.toList.drop hi2 = T.tmps.toList.drop hi2) : Ahead ops q T a :=
  Ahead.of _ hs hd rfl fun t ht => by
    have h := List.all_eq_true.1 hl t ht
    simp only [Bool.or_eq_true, Bool.and_eq_true, decide_eq_true_eq] at h
    rw [← Array.getElem?_toList, ← Array.getElem?_toList]
    rcases h with (h | h) | h
    · rw [← List.getElem?_take_of_lt h, h1, List.getElem?_take_of_lt h]
    · obtain ⟨d, rfl⟩ := Nat.le.dest h.1
      have hd2 : d < lo2 - hi := Nat.lt_sub_of_add_lt (by rw [Nat.add_comm]; exact h.2)
      rw [← List.getElem?_drop, ← List.getElem?_take_of_lt hd2, h2, List.getElem?_take_of_lt hd2, List.getElem?_drop]
    · obtain ⟨d, rfl⟩ := Nat.le.dest h
      rw [← List.getElem?_drop, h3, List.getElem?_drop]
theorem heap_cells {W : World} {base g cap jh : Nat} {l : List S60} {hh : S60} (h : W.ownsRow base 60 6 (.slice (some ⟨g, 0, none⟩) l.length cap) l.length (hF l)) (hj : jh < l.length) (hhh : l.getD jh z60 = hh) :
    W.cell? ⟨g, jh * 6, none⟩ = some (.int .i64 hh.f0.f0) ∧ W.cell? ⟨g, jh * 6 + 1, none⟩ = some (.int .i64 hh.f0.f1) ∧ W.cell? ⟨g, jh * 6 + 2, none⟩ = some (.int .i64 hh.f1.f0) ∧ W.cell? ⟨g, jh * 6 + 3, none⟩ = some (.int .i64 hh.f1.f1) ∧ W.cell? ⟨g, jh * 6 + 4, none⟩ = some (.int .i64 hh.f2.f0) ∧ W.cell? ⟨g, jh * 6 + 5, none⟩ = some (.int .i64 hh.f2.f1) := by
  have hq : ∀ j, j < 6 → W.cell? ⟨g, jh * 6 + j, none⟩ = (hC hh)[j]? := fun j hj' => by
    have e := h.cellAt (jh * 6 + j) (by omega)
    rw [hF_at hj hj', hhh] at e; exact e
  exact ⟨hq 0 (by omega), hq 1 (by omega), hq 2 (by omega), hq 3 (by omega), hq 4 (by omega), hq 5 (by omega)⟩
def sG (s : KS) (n : Nat) (pp : S52) (a b d : S23) (gg : Got) : KS := { s with ps := s.ps.set n ⟨if (gg 23).isSome = true then a else pp.f0, if (gg 26).isSome = true then b else pp.f1, if (gg 29).isSome = true then d else pp.f2, pp.f3, pp.f4⟩ }
theorem sG_len {s : KS} {n : Nat} {pp : S52} {a b d : S23} {gg : Got} (h : s.ps.length = n + 1) : (sG s n pp a b d gg).ps.length = n + 1 := by simp [sG, h]
theorem sG_none {s : KS} {n : Nat} {pp : S52} {a b d : S23} (h : s.ps.getD n z52 = pp) (hn : n < s.ps.length) : s.ps = (sG s n pp a b d (fun _ => none)).ps := by
  unfold sG
  simp only [Option.isSome_none, Bool.false_eq_true, if_false]
  rw [← h]
  apply List.ext_getElem?
  intro i
  rw [List.getElem?_set]
  by_cases e : n = i
  · subst e; simp [hn, List.getD]
  · simp [e]
theorem sG_getD {s : KS} {n : Nat} {pp : S52} {a b d : S23} {gg : Got} (hn : n < s.ps.length) : (sG s n pp a b d gg).ps.getD n z52 = ⟨if (gg 23).isSome = true then a else pp.f0, if (gg 26).isSome = true then b else pp.f1, if (gg 29).isSome = true then d else pp.f2, pp.f3, pp.f4⟩ := by
  unfold sG; exact getD_set_same hn
theorem sG_set0 {s : KS} {n : Nat} {pp : S52} {a b d : S23} {gg : Got} (hn : n < s.ps.length) (h : gg 23 = none) : { sG s n pp a b d gg with ps := (sG s n pp a b d gg).ps.set n { (sG s n pp a b d gg).ps.getD n z52 with f0 := a } } = sG s n pp a b d (gg.upd 23 undef) := by
  rw [sG_getD hn]; unfold sG; simp [Got.upd, h]
theorem sG_set1 {s : KS} {n : Nat} {pp : S52} {a b d : S23} {gg : Got} (hn : n < s.ps.length) (h : gg 26 = none) : { sG s n pp a b d gg with ps := (sG s n pp a b d gg).ps.set n { (sG s n pp a b d gg).ps.getD n z52 with f1 := b } } = sG s n pp a b d (gg.upd 26 undef) := by
  rw [sG_getD hn]; unfold sG; simp [Got.upd, h]
theorem sG_set2 {s : KS} {n : Nat} {pp : S52} {a b d : S23} {gg : Got} (hn : n < s.ps.length) (h : gg 29 = none) : { sG s n pp a b d gg with ps := (sG s n pp a b d gg).ps.set n { (sG s n pp a b d gg).ps.getD n z52 with f2 := d } } = sG s n pp a b d (gg.upd 29 undef) := by
  rw [sG_getD hn]; unfold sG; simp [Got.upd, h]
theorem sG_cells0 {w W : World} {ho fi : S23} {A : Option Addr} {c : Nat} {l : List S36} {s : KS} {bk : S23} {vh : Value} {g cap n : Nat} {pp : S52} {a b d : S23} {gg : Got} (h : QI w ho fi A c l (sG s n pp a b d gg) bk vh (.slice (some ⟨g, 0, none⟩) (n + 1) cap) W) (hn : s.ps.length = n + 1) (hg : gg 23 = none) : W.cell? ⟨g, n * 9, none⟩ = some (.int .i64 pp.f0.f0) ∧ W.cell? ⟨g, n * 9 + 1, none⟩ = some (.int .i64 pp.f0.f1) := by
  have e0 := h.pcell (sG_len hn) (k := n) (j := 0) (by omega) (by omega)
  have e1 := h.pcell (sG_len hn) (k := n) (j := 1) (by omega) (by omega)
  rw [sG_getD (by omega)] at e0 e1
  simp [hg, pC] at e0 e1
  exact ⟨e0, e1⟩
theorem sG_cells1 {w W : World} {ho fi : S23} {A : Option Addr} {c : Nat} {l : List S36} {s : KS} {bk : S23} {vh : Value} {g cap n : Nat} {pp : S52} {a b d : S23} {gg : Got} (h : QI w ho fi A c l (sG s n pp a b d gg) bk vh (.slice (some ⟨g, 0, none⟩) (n + 1) cap) W) (hn : s.ps.length = n + 1) (hg : gg 26 = none) : W.cell? ⟨g, n * 9 + 2, none⟩ = some (.int .i64 pp.f1.f0) ∧ W.cell? ⟨g, n * 9 + 3, none⟩ = some (.int .i64 pp.f1.f1) := by
  have e0 := h.pcell (sG_len hn) (k := n) (j := 2) (by omega) (by omega)
  have e1 := h.pcell (sG_len hn) (k := n) (j := 3) (by omega) (by omega)
  rw [sG_getD (by omega)] at e0 e1
  simp [hg, pC] at e0 e1
  exact ⟨e0, e1⟩
theorem sG_cells2 {w W : World} {ho fi : S23} {A : Option Addr} {c : Nat} {l : List S36} {s : KS} {bk : S23} {vh : Value} {g cap n : Nat} {pp : S52} {a b d : S23} {gg : Got} (h : QI w ho fi A c l (sG s n pp a b d gg) bk vh (.slice (some ⟨g, 0, none⟩) (n + 1) cap) W) (hn : s.ps.length = n + 1) (hg : gg 29 = none) : W.cell? ⟨g, n * 9 + 4, none⟩ = some (.int .i64 pp.f2.f0) ∧ W.cell? ⟨g, n * 9 + 5, none⟩ = some (.int .i64 pp.f2.f1) := by
  have e0 := h.pcell (sG_len hn) (k := n) (j := 4) (by omega) (by omega)
  have e1 := h.pcell (sG_len hn) (k := n) (j := 5) (by omega) (by omega)
  rw [sG_getD (by omega)] at e0 e1
  simp [hg, pC] at e0 e1
  exact ⟨e0, e1⟩
theorem QI.same {w W : World} {ho fi : S23} {A : Option Addr} {c : Nat} {l : List S36} {s s' : KS} {b : S23} {vh vp : Value} (h : QI w ho fi A c l s b vh vp W) (h1 : s.hs = s'.hs) (h2 : s.ps = s'.ps) : QI w ho fi A c l s' b vh vp W := by
  obtain ⟨a1, a2, a3, a4, a5⟩ := h
  rw [h1] at a2
  rw [h2] at a3
  exact ⟨a1, a2, a3, a4, a5⟩
def RetPer (s : KS) (w : World) (e : Ending) (w' : World) : Prop := ∃ vp vh, e = .returned (.tuple #[vp, vh]) ∧ w'.ownsRow w.heap.size 52 9 vp s.ps.length (pF s.ps) ∧ w'.ownsRow w.heap.size 60 6 vh s.hs.length (hF s.hs) ∧ Below w.heap.size w w'
set_option maxRecDepth 100000 in
set_option maxHeartbeats 8000000 in
set_option pp.deepTerms true in
set_option pp.maxSteps 1000000 in
theorem periodsR_any (ho fi : S23) (A : Option Addr) (c : Nat) (l : List S36) (w : World) (hr : Kd.C k36 w A l.length l) (hc : l.length ≤ c) (hv : bookErr ho fi l = 0) :
    Calls Try.prog 34 #[.agg #[.int .i64 ho.f0, .int .i64 ho.f1, .int .i64 fi.f0, .int .i64 fi.f1, .slice A l.length c]] w (RetPer (keptOf l) w) := by
  have hu := Try.underlying36
  have hu1 := Try.underlying26
  have hu2 := Try.underlying52
  have hu3 := Try.underlying60
  have hu6 := Try.underlying23
  have HB := Below.refl w.heap.size w
  have HOK := hid (stepOk_all hv)
  have HV := hid hv
  have hl := (kept_bounds hv).2.2.2
  clear hv
  go_enter Try.func34, Try.ntmps34
  go_upto_region 4 with fail
  have hQ0 : QI w ho fi A c l (keptOf (l.take 0)) (beforeK (keptOf (l.take 0))) (.slice none 0 0) (.slice (some ⟨w.heap.size + 1, 0, none⟩) 1 1) (((w.alloc (.cells #[.int .i64 ho.f0, .int .i64 ho.f1, .int .i64 fi.f0, .int .i64 fi.f1, .slice A l.length c] 26)).alloc (.cells #[.int .i64 0, .int .i64 0, .int .i64 0, .int .i64 0, .int .i64 0, .int .i64 0, .int .i64 0, .int .i64 0, .int .i64 0] 52)).alloc (.cells #[.int .i64 0, .int .i64 1000] 23)) := by
    have c0 := World.alloc_heap_new w (.cells #[.int .i64 ho.f0, .int .i64 ho.f1, .int .i64 fi.f0, .int .i64 fi.f1, .slice A l.length c] 26)
    have c1 := World.alloc_heap_new (w.alloc (.cells #[.int .i64 ho.f0, .int .i64 ho.f1, .int .i64 fi.f0, .int .i64 fi.f1, .slice A l.length c] 26)) (.cells #[.int .i64 0, .int .i64 0, .int .i64 0, .int .i64 0, .int .i64 0, .int .i64 0, .int .i64 0, .int .i64 0, .int .i64 0] 52)
    have c2 := World.alloc_heap_new ((w.alloc (.cells #[.int .i64 ho.f0, .int .i64 ho.f1, .int .i64 fi.f0, .int .i64 fi.f1, .slice A l.length c] 26)).alloc (.cells #[.int .i64 0, .int .i64 0, .int .i64 0, .int .i64 0, .int .i64 0, .int .i64 0, .int .i64 0, .int .i64 0, .int .i64 0] 52)) (.cells #[.int .i64 0, .int .i64 1000] 23)
    simp only [World.size_alloc] at c1 c2
    refine ⟨c2, World.ownsRow_nil _ _ _ _, ?_, alloc_old (alloc_old c0), ((HB.alloc (Nat.le_refl _) _).alloc (by simp) _).alloc (by simp; omega) _⟩
    exact ⟨rfl, .inr ⟨_, 1, _, rfl, Nat.le_refl _, alloc_old c1, Nat.le_refl _, by decide, rfl, rfl⟩⟩
  have HQ0 := hid hQ0
  clear hQ0 HB
  generalize (((w.alloc (.cells #[.int .i64 ho.f0, .int .i64 ho.f1, .int .i64 fi.f0, .int .i64 fi.f1, .slice A l.length c] 26)).alloc (.cells #[.int .i64 0, .int .i64 0, .int .i64 0, .int .i64 0, .int .i64 0, .int .i64 0, .int .i64 0, .int .i64 0, .int .i64 0] 52)).alloc (.cells #[.int .i64 0, .int .i64 1000] 23)) = W3 at *
  go_wp2_with fail
  go_loopw [4, 5, 7] (fun v4 v5 v7 X => ∃ k : Nat, k ≤ l.length ∧ v7 = .int .i64 k ∧ ∃ vh vp : Value, vh = v5 ∧ vp = v4 ∧ Hid (QI w ho fi A c l (keptOf (l.take k)) (beforeK (keptOf (l.take k))) vh vp X)) (fun v4 v5 v7 _ => l.length - (intOf v7).toNat)
  case atStart => exact ⟨0, by omega, rfl, _, _, rfl, rfl, HQ0⟩
  case round =>
    obtain ⟨k, hk, rfl, vh, vp, rfl, rfl, HX⟩ := hrel
    rename World => Wk
    have y4 := blkCell HX.out.bx 4
    simp at y4
    by_cases hlt : k < l.length
    · have hlen := kept_len l k hk
      have hKI := HX.out
      obtain ⟨g, cap, rfl, hg1, hg3, hg2⟩ := hKI.pform (by omega)
      obtain ⟨x, hx⟩ : ∃ x, l[k] = x := ⟨_, rfl⟩
      have hso := HOK.out k hlt
      rw [hx] at hso
      have hnx := kept_take hlt
      rw [hx] at hnx
      have HPK := hid (fun (lot : Int) (p : Int × Int × S23) (h : ((keptOf (l.take k)).pk.find? fun p => p.1 == lot) = some p) => pk_idx HV.out hk h)
      have HPC := hid (ps_cnt l k hk)
      have hcc := at_T36 (Kd.C_below hr hKI.be) k (by omega) (by omega)
      rw [rdP hlt, hx] at hcc
      simp only [Int.toNat_natCast] at hcc
      obtain ⟨ad, rfl, k0, k1, k2, k3, k4, k5, k6, k7, k8, k9, k10⟩ := hcc
      generalize keptOf (l.take k) = s at *
      obtain ⟨n, hn⟩ : ∃ n, s.ps.length = n + 1 := ⟨s.ps.length - 1, by have := hlen.1; omega⟩
      rw [hn] at HX hKI
      rw [hn]
      have hwn : wrap64 (n : Int) = n := wrap64_id (by omega) (by have := hlen.2.1; omega)
      have hwm : wrap64 ((n : Int) + 1 - 1) = n := by rw [show (n : Int) + 1 - 1 = n by omega]; exact hwn
      have hwp : wrap64 (((n + 1 : Nat) : Int) - 1) = n := by rw [show ((n + 1 : Nat) : Int) - 1 = n by omega]; exact hwn
      have hnl : (n : Int) < ((n + 1 : Nat) : Int) := by omega
      have hnd : decide ((n : Int) < ((n + 1 : Nat) : Int)) = true := decide_eq_true hnl
      have HKI := hid hKI
      have HN := hid hn
      have HLN := hid hlen
      have HSO := hid hso
      have HNX := hid hnx
      have HG := hid (And.intro hg1 (And.intro hg2 hg3))
      clear hKI hlen hso hnx hg1 hg2 HX hn
      go_upto_block 1 with fail
      go_cut [4, 5, 7, 8, 9, 10, 11, 12, 13, 14] from 18 to 151 (fun v4 v5 v7 v8 v9 v10 v11 v12 v13 v14 wc => v7 = .int .i64 k ∧ Hid (QI w ho fi (some ad) c l (stepK s x) (beforeK (stepK s x)) v5 v4 wc))
      case first =>
        have hgr := (Below.refl Wk.heap.size Wk).alloc (Nat.le_refl _) (.cells #[.int .i64 x.f0, .int .u8 x.f1, .int .i64 x.f2, .int .i64 x.f3, .int .i64 x.f4.f0, .int .i64 x.f4.f1, .int .i64 x.f5.f0, .int .i64 x.f5.f1, .int .i64 x.f6.f0, .int .i64 x.f6.f1, .int .i64 x.f7] 36)
        have e5 := World.alloc_heap_new Wk (.cells #[.int .i64 x.f0, .int .u8 x.f1, .int .i64 x.f2, .int .i64 x.f3, .int .i64 x.f4.f0, .int .i64 x.f4.f1, .int .i64 x.f5.f0, .int .i64 x.f5.f1, .int .i64 x.f6.f0, .int .i64 x.f6.f1, .int .i64 x.f7] 36)
        have hK6 := HKI.out.grow hgr
        go_upto_region 8 with fail
        clear hgr k0 k1 k2 k3 k4 k5 k6 k7 k8 k9 k10 HKI y4
        have HE5 := hid e5
        have HK6 := hid hK6
        have HG3 := hid hg3
        clear e5 hK6 hg3 hx
        generalize Wk.alloc (.cells #[.int .i64 x.f0, .int .u8 x.f1, .int .i64 x.f2, .int .i64 x.f3, .int .i64 x.f4.f0, .int .i64 x.f4.f1, .int .i64 x.f5.f0, .int .i64 x.f5.f1, .int .i64 x.f6.f0, .int .i64 x.f6.f1, .int .i64 x.f7] 36) = W6 at *
        generalize Wk.heap.size = B5 at *
        have y1 := blkCell HE5.out 1
        simp at y1
        go_upto_block 2 with fail
        clear y1
        by_cases hk1 : x.f1 = 1
        · have HS := hid (And.intro (show stepK s x = inK s x by unfold stepK; simp [hk1]) (show beforeK (stepK s x) = beforeK s by rw [before_step (by have := HN.out; omega), if_neg (by omega)]))
          have HKE := hid hk1
          clear hk1
          have f1 : (x.f1 == 1) = true := by simp [HKE.out]
          have y4 := blkCell HE5.out 4
          have y5 := blkCell HE5.out 5
          have y6 := blkCell HE5.out 6
          have y7 := blkCell HE5.out 7
          have y8 := blkCell HE5.out 8
          have y9 := blkCell HE5.out 9
          simp at y4 y5 y6 y7 y8 y9
          go_wp2_with (at_builtin; refine Hid.out ?_)
          refine hid ?_
          clear y4 y5 y6 y7 y8 y9
          have hgr := (Below.refl W6.heap.size W6).alloc (Nat.le_refl _) (.cells #[.int .i64 x.f4.f0, .int .i64 x.f4.f1, .int .i64 x.f5.f0, .int .i64 x.f5.f1, .int .i64 x.f6.f0, .int .i64 x.f6.f1] 60)
          have hnew := World.alloc_heap_new W6 (.cells #[.int .i64 x.f4.f0, .int .i64 x.f4.f1, .int .i64 x.f5.f0, .int .i64 x.f5.f1, .int .i64 x.f6.f0, .int .i64 x.f6.f1] 60)
          have hK7 := HK6.out.grow hgr
          have hs7 : w.heap.size + 1 ≤ (W6.alloc (.cells #[.int .i64 x.f4.f0, .int .i64 x.f4.f1, .int .i64 x.f5.f0, .int .i64 x.f5.f1, .int .i64 x.f6.f0, .int .i64 x.f6.f1] 60)).heap.size := by have := hK7.be.size; have := cell_lt (blkCell hK7.st 1); omega
          generalize W6.alloc (.cells #[.int .i64 x.f4.f0, .int .i64 x.f4.f1, .int .i64 x.f5.f0, .int .i64 x.f5.f1, .int .i64 x.f6.f0, .int .i64 x.f6.f1] 60) = W7 at *
          generalize W6.heap.size = B6 at *
          obtain ⟨i0, hi, hz0, hz1, hz2⟩ := info60'
          refine wpList_append_own W7 rfl _ _ 39 rfl (w.heap.size + 1) 60 i0 _ 6 48 Try.underlying39 hi hz0 hz1 hz2 rfl (by decide) vh s.hs.length (hF s.hs) rfl hK7.rh ⟨B6, 0, none⟩ 1 1 (hC (⟨x.f4, x.f5, x.f6⟩ : S60)) rfl rfl (row_cells hnew) (by simp [hC, z52, z23, Value.oneCell']) (by have := HLN.out; have := HN.out; unfold maxLen; omega) (by have := HLN.out; have := HN.out; omega) hs7 ?_
          intro v' W8 hown' hgrow _
          have hK9 := hK7.heaps (⟨x.f4, x.f5, x.f6⟩ : S60) hown' hgrow
          obtain ⟨g', cap', rfl⟩ := ownsRow_succ hown'
          have HF := hid hK9
          clear hgr hnew hK7 hs7 hi hz0 hz1 hz2 hown' hgrow hK9
          go_wp2
          go_meet
          case rel => exact ⟨rfl, hid (by rw [HS.out.2, HS.out.1]; exact HF.out)⟩
        by_cases hk5 : x.f1 = 5
        · have HS := hid (And.intro (show stepK s x = backK s x by unfold stepK; simp [hk5]) (show beforeK (stepK s x) = beforeK s by rw [before_step (by have := HN.out; omega), if_neg (by omega)]))
          have HKE := hid hk5
          clear hk5
          have f1 : (x.f1 == 1) = false := by simp [HKE.out]
          have f5 : (x.f1 == 5) = true := by simp [HKE.out]
          have y4 := blkCell HE5.out 4
          have y5 := blkCell HE5.out 5
          simp at y4 y5
          obtain ⟨bk, hbk⟩ : ∃ bk, beforeK s = bk := ⟨_, rfl⟩
          rw [hbk] at HK6 HS
          have z0 := blkCell HK6.out.st 0
          have z1 := blkCell HK6.out.st 1
          simp at z0 z1
          have HBK := hid hbk
          clear hbk
          go_wp2_with (at_builtin; refine Hid.out ?_)
          refine hid ?_
          clear y4 y5 z0 z1
          have hgr := (Below.refl W6.heap.size W6).alloc (Nat.le_refl _) (.cells #[.int .i64 x.f4.f0, .int .i64 x.f4.f1, .int .i64 bk.f0, .int .i64 bk.f1, .int .i64 0, .int .i64 0] 60)
          have hnew := World.alloc_heap_new W6 (.cells #[.int .i64 x.f4.f0, .int .i64 x.f4.f1, .int .i64 bk.f0, .int .i64 bk.f1, .int .i64 0, .int .i64 0] 60)
          have hK7 := HK6.out.grow hgr
          have hs7 : w.heap.size + 1 ≤ (W6.alloc (.cells #[.int .i64 x.f4.f0, .int .i64 x.f4.f1, .int .i64 bk.f0, .int .i64 bk.f1, .int .i64 0, .int .i64 0] 60)).heap.size := by have := hK7.be.size; have := cell_lt (blkCell hK7.st 1); omega
          generalize W6.alloc (.cells #[.int .i64 x.f4.f0, .int .i64 x.f4.f1, .int .i64 bk.f0, .int .i64 bk.f1, .int .i64 0, .int .i64 0] 60) = W7 at *
          generalize W6.heap.size = B6 at *
          obtain ⟨i0, hi, hz0, hz1, hz2⟩ := info60'
          refine wpList_append_own W7 rfl _ _ 39 rfl (w.heap.size + 1) 60 i0 _ 6 48 Try.underlying39 hi hz0 hz1 hz2 rfl (by decide) vh s.hs.length (hF s.hs) rfl hK7.rh ⟨B6, 0, none⟩ 1 1 (hC (⟨x.f4, bk, z23⟩ : S60)) rfl rfl (row_cells hnew) (by simp [hC, z52, z23, Value.oneCell']) (by have := HLN.out; have := HN.out; unfold maxLen; omega) (by have := HLN.out; have := HN.out; omega) hs7 ?_
          intro v' W8 hown' hgrow _
          have hK9 := hK7.heaps (⟨x.f4, bk, z23⟩ : S60) hown' hgrow
          obtain ⟨g', cap', rfl⟩ := ownsRow_succ hown'
          have HF := hid hK9
          have HS2 := hid (show stepK s x = { s with hs := s.hs ++ [⟨x.f4, bk, z23⟩] } by rw [HS.out.1]; unfold backK; rw [HBK.out])
          clear hgr hnew hK7 hs7 hi hz0 hz1 hz2 hown' hgrow hK9
          go_wp2
          go_meet
          case rel => exact ⟨rfl, hid (by rw [HS.out.2, HS2.out]; exact HF.out)⟩
        by_cases hk2 : x.f1 = 2
        · have HS := hid (And.intro (show stepK s x = chargeK s x by unfold stepK; simp [hk2]) (show beforeK (stepK s x) = beforeK s by rw [before_step (by have := HN.out; omega), if_neg (by omega)]))
          have HKE := hid hk2
          clear hk2
          have f1 : (x.f1 == 1) = false := by simp [HKE.out]
          have f5 : (x.f1 == 5) = false := by simp [HKE.out]
          have f2 : (x.f1 == 2) = true := by simp [HKE.out]
          obtain ⟨hc0, hc1⟩ := HSO.out.charge HKE.out
          obtain ⟨jh, hjh⟩ : ∃ jh : Nat, x.f2 = jh := ⟨x.f2.toNat, by omega⟩
          have hjl : jh < s.hs.length := by omega
          obtain ⟨gh, gc2, hvh⟩ : ∃ gh gc2, vh = .slice (some ⟨gh, 0, none⟩) s.hs.length gc2 := by
            rcases HK6.out.rh.2 with ⟨h1, h2⟩ | ⟨g1, c1, u1, h1, _⟩
            · omega
            · exact ⟨g1, c1, h1⟩
          subst hvh
          obtain ⟨hh, hhh⟩ : ∃ hh, s.hs.getD jh z60 = hh := ⟨_, rfl⟩
          have HHR := hid (And.intro HK6.out.rh (And.intro hjl hhh))
          have HJH := hid hjh
          clear hc0 hc1 hjh hhh
          have hjl2 : (jh : Int) < (s.hs.length : Int) := by omega
          have hld : decide ((jh : Int) < (s.hs.length : Int)) = true := decide_eq_true hjl2
          have y2 := blkCell HE5.out 2
          simp at y2
          rw [HJH.out] at y2
          go_upto_region 15 with fail
          clear y2
          refine wp_flow11 [[], [], [1], [0, 2, 1], [3, 0, 2, 1], [], [5], [4, 3, 0, 2, 1, 6, 5], [7, 4, 3, 0, 2, 1, 6, 5], [8, 7, 4, 3, 0, 2, 1, 6, 5], [8, 7, 4, 3, 0, 2, 1, 6, 5], [8, 7, 4, 3, 0, 2, 1, 6, 5], [], [], [], [12, 9, 8, 7, 4, 3, 0, 2, 1, 6, 5, 13, 14], [13, 10, 8, 7, 4, 3, 0, 2, 1, 6, 5, 15, 12, 9, 14], [14, 11, 8, 7, 4, 3, 0, 2, 1, 6, 5, 16, 13, 10, 15, 12, 9]] 18 [(12, some 10), (13, some 11), (14, some 12), (15, none), (16, none), (17, none)]
            (fun g V => Below W6.heap.size W6 V ∧ BoxF W6.heap.size 23 [12, 13, 14] (fun e => e + 3) #[.int .i64 0, .int .i64 0] (fun e => if e = 12 then #[.int .i64 (glassS x.f4 hh).f0, .int .i64 (glassS x.f4 hh).f1] else if e = 13 then #[.int .i64 (timesS x.f4 hh.f1).f0, .int .i64 (timesS x.f4 hh.f1).f1] else #[.int .i64 (timesS x.f4 hh.f2).f0, .int .i64 (timesS x.f4 hh.f2).f1]) g V)
            { tmps := #[.agg #[.int .i64 ho.f0, .int .i64 ho.f1, .int .i64 fi.f0, .int .i64 fi.f1, .slice (some ad) l.length c], .pointer (some ⟨w.heap.size, 0, none⟩), .slice none 0 0, .slice none 0 0, .slice (some ⟨g, 0, none⟩) (n + 1) cap, .slice (some ⟨gh, 0, none⟩) s.hs.length gc2, .pointer (some ⟨w.heap.size + 1 + 1, 0, none⟩), .int .i64 k, .pointer (some ⟨B5, 0, none⟩), .pointer (some ⟨g, n * 9, none⟩), u10, u11, u12, u13, u14, .agg #[.int .i64 0, .int .i64 0, .int .i64 0, .int .i64 0, .int .i64 0, .int .i64 0, .int .i64 0, .int .i64 0, .int .i64 0], .slice (some ⟨w.heap.size + 1, 0, none⟩) 1 1, .agg #[.int .i64 0, .int .i64 1000], .int .i64 k, .pointer (some ⟨w.heap.size, 4, none⟩), .slice (some ad) l.length c, .int .i64 l.length, .bool true, u23, u24, .pointer (some ⟨w.heap.size, 4, none⟩), .slice (some ad) l.length c, .int .i64 k, .pointer (some (ad.add (k * 11))), .agg #[.int .i64 x.f0, .int .u8 x.f1, .int .i64 x.f2, .int .i64 x.f3, .int .i64 x.f4.f0, .int .i64 x.f4.f1, .int .i64 x.f5.f0, .int .i64 x.f5.f1, .int .i64 x.f6.f0, .int .i64 x.f6.f1, .int .i64 x.f7], .slice (some ⟨g, 0, none⟩) (n + 1) cap, .slice (some ⟨g, 0, none⟩) (n + 1) cap, .int .i64 (n + 1), .int .i64 (wrap64 n), .pointer (some ⟨g, n * 9, none⟩), .pointer (some ⟨B5, 1, none⟩), .int .u8 x.f1, .bool false, .bool false, u39, u40, u41, u42, u43, u44, u45, u46, u47, u48, .bool false, .bool false, u51, u52, u53, u54, u55, u56, u57, .bool true, .bool true, .tuple #[.agg #[.int .i64 ((glassS x.f4 hh).f0), .int .i64 ((glassS x.f4 hh).f1)], .agg #[.int .i64 ((timesS x.f4 hh.f1).f0), .int .i64 ((timesS x.f4 hh.f1).f1)], .agg #[.int .i64 ((timesS x.f4 hh.f2).f0), .int .i64 ((timesS x.f4 hh.f2).f1)]], .slice (some ⟨gh, 0, none⟩) s.hs.length gc2, .pointer (some ⟨B5, 2, none⟩), .int .i64 ((jh : Int)), .pointer (some ⟨gh, jh * 6, none⟩), .agg #[.int .i64 hh.f0.f0, .int .i64 hh.f0.f1, .int .i64 hh.f1.f0, .int .i64 hh.f1.f1, .int .i64 hh.f2.f0, .int .i64 hh.f2.f1], .pointer (some ⟨B5, 4, none⟩), .agg #[.int .i64 x.f4.f0, .int .i64 x.f4.f1], .tuple #[.agg #[.int .i64 ((glassS x.f4 hh).f0), .int .i64 ((glassS x.f4 hh).f1)], .agg #[.int .i64 ((timesS x.f4 hh.f1).f0), .int .i64 ((timesS x.f4 hh.f1).f1)], .agg #[.int .i64 ((timesS x.f4 hh.f2).f0), .int .i64 ((timesS x.f4 hh.f2).f1)]], .agg #[.int .i64 ((glassS x.f4 hh).f0), .int .i64 ((glassS x.f4 hh).f1)], .agg #[.int .i64 ((timesS x.f4 hh.f1).f0), .int .i64 ((timesS x.f4 hh.f1).f1)], .agg #[.int .i64 ((timesS x.f4 hh.f2).f0), .int .i64 ((timesS x.f4 hh.f2).f1)], u72, u73, u74, u75, u76, u77, u78, u79, u80, u81, u82, u83, u84, u85, u86, u87, u88, u89, u90, u91, u92, u93, u94, u95, u96, u97, u98, u99, u100, u101, u102, u103, u104, u105, u106, u107, u108, u109, u110, u111, u112, u113, u114, u115, u116, u117, u118, u119, u120, u121, u122, u123, u124, u125, u126, u127, u128, u129, u130, u131, u132, u133, u134, u135, u136, u137, u138, u139, u140, u141, u142, u143, u144, u145, u146, u147, u148, u149, u150, u151, undef, undef], defers := [] }
            mixed (by kernel_rfl) rfl (by kernel_rfl) (by kernel_rfl) (by kernel_rfl) (Ahead.of4 10 13 60 72 rfl rfl (by kernel_rfl) rfl rfl rfl) ?_ rfl ?_ rfl ?_
          · exact ⟨(Below.refl _ _).drew, BoxF.nil _ _ _ _ _ _ _⟩
          · refine ⟨?_, ?_, ?_, ?_, ?_, ?_, ?_, ?_, ?_, ?_, ?_, ?_, ?_, ?_, ?_, ?_, ?_, ?_, trivial⟩
            · exact fun g hbe => FlowOp.val 61 _ rfl rfl fun V ⟨hB_, hX_⟩ => by go_simp
            · exact fun g hbe => FlowOp.val 62 _ rfl rfl fun V ⟨hB_, hX_⟩ => by go_simp
            · exact fun g hbe => FlowOp.val 63 _ rfl rfl fun V ⟨hB_, hX_⟩ => by have y2 := blkCell (heap_grow HE5.out hB_) 2; simp at y2; go_simp <;> exact HJH.out
            · exact fun g hbe => FlowOp.val 64 _ rfl rfl fun V ⟨hB_, hX_⟩ => by have hl2 := HHR.out.2.1; go_simp <;> exact fun hh => absurd hh (by omega)
            · exact fun g hbe => FlowOp.val 65 _ rfl rfl fun V ⟨hB_, hX_⟩ => by obtain ⟨q0, q1, q2, q3, q4, q5⟩ := heap_cells (rings_set HHR.out.1 hB_) HHR.out.2.1 HHR.out.2.2; go_simp
            · exact fun g hbe => FlowOp.val 66 _ rfl rfl fun V ⟨hB_, hX_⟩ => by go_simp
            · exact fun g hbe => FlowOp.val 67 _ rfl rfl fun V ⟨hB_, hX_⟩ => by have y4 := blkCell (heap_grow HE5.out hB_) 4; have y5 := blkCell (heap_grow HE5.out hB_) 5; simp at y4 y5; go_simp
            · intro g hbe
              refine FlowOp.call 68 (.tuple #[.agg #[.int .i64 ((glassS x.f4 hh).f0), .int .i64 ((glassS x.f4 hh).f1)], .agg #[.int .i64 ((timesS x.f4 hh.f1).f0), .int .i64 ((timesS x.f4 hh.f1).f1)], .agg #[.int .i64 ((timesS x.f4 hh.f2).f0), .int .i64 ((timesS x.f4 hh.f2).f1)]]) 64 #[.agg #[.int .i64 hh.f0.f0, .int .i64 hh.f0.f1, .int .i64 hh.f1.f0, .int .i64 hh.f1.f1, .int .i64 hh.f2.f0, .int .i64 hh.f2.f1], .agg #[.int .i64 x.f4.f0, .int .i64 x.f4.f1]] rfl rfl (fun V ⟨hB_, hX_⟩ => by go_simp) fun V ⟨hB_, hX_⟩ => ?_
              refine (chargeR_any hh x.f4 _).mono ?_
              rintro e w' ⟨rfl, hb⟩
              exact ⟨rfl, hB_.trans (hb.mono hB_.size), hX_.grow hb⟩
            · exact fun g hbe => FlowOp.val 60 _ rfl rfl fun V ⟨hB_, hX_⟩ => by go_simp
            · exact fun g hbe => FlowOp.val 69 _ rfl rfl fun V ⟨hB_, hX_⟩ => by go_simp
            · exact fun g hbe => FlowOp.val 70 _ rfl rfl fun V ⟨hB_, hX_⟩ => by go_simp
            · exact fun g hbe => FlowOp.val 71 _ rfl rfl fun V ⟨hB_, hX_⟩ => by go_simp
            · refine ⟨fun r => by rfl, fun r W hr hga hbe ⟨hB_, hX_⟩ => ?_⟩
              dsimp only [putE, Act.put]
              exact .inl ⟨.pointer (some ⟨W.heap.size, 0, none⟩), W.alloc (.cells #[.int .i64 0, .int .i64 0] 23), by go_simp, hB_.alloc hB_.size _, hX_.alloc hB_.size (by simp) (hbe (15, none) (by simp) (by decide)) (by decide)⟩
            · refine ⟨fun r => by rfl, fun r W hr hga hbe ⟨hB_, hX_⟩ => ?_⟩
              dsimp only [putE, Act.put]
              exact .inl ⟨.pointer (some ⟨W.heap.size, 0, none⟩), W.alloc (.cells #[.int .i64 0, .int .i64 0] 23), by go_simp, hB_.alloc hB_.size _, hX_.alloc hB_.size (by simp) (hbe (16, none) (by simp) (by decide)) (by decide)⟩
            · refine ⟨fun r => by rfl, fun r W hr hga hbe ⟨hB_, hX_⟩ => ?_⟩
              dsimp only [putE, Act.put]
              exact .inl ⟨.pointer (some ⟨W.heap.size, 0, none⟩), W.alloc (.cells #[.int .i64 0, .int .i64 0] 23), by go_simp, hB_.alloc hB_.size _, hX_.alloc hB_.size (by simp) (hbe (17, none) (by simp) (by decide)) (by decide)⟩
            · refine ⟨fun r => by rfl, fun r W hr hga hbe ⟨hB_, hX_⟩ => ?_⟩
              dsimp only [putE, Act.put]
              obtain ⟨u, hu⟩ := hga (12, some 10) (by simp) (by decide)
              simp only at hu
              obtain ⟨b, rfl, hbB, hbx⟩ := hX_.at_ 12 (by simp) u hu
              simp only [hr, Option.isSome_none, Bool.false_eq_true, if_false] at hbx
              have z0 := blkCell hbx 0
              have z1 := blkCell hbx 1
              have g0 := blkFrozen hbx 0
              have g1 := blkFrozen hbx 1
              simp at z0 z1
              exact .inr ⟨(W.setCell ⟨b, 0, none⟩ (.int .i64 (glassS x.f4 hh).f0)).setCell ⟨b, 1, none⟩ (.int .i64 (glassS x.f4 hh).f1), rfl, by rw [hu]; go_simp, st2_below hB_ hbB _ _, hX_.store (e := 12) (b := b) (by simp) rfl (by simp) (by simp) hr hu rfl undef⟩
            · refine ⟨fun r => by rfl, fun r W hr hga hbe ⟨hB_, hX_⟩ => ?_⟩
              dsimp only [putE, Act.put]
              obtain ⟨u, hu⟩ := hga (13, some 11) (by simp) (by decide)
              simp only at hu
              obtain ⟨b, rfl, hbB, hbx⟩ := hX_.at_ 13 (by simp) u hu
              simp only [hr, Option.isSome_none, Bool.false_eq_true, if_false] at hbx
              have z0 := blkCell hbx 0
              have z1 := blkCell hbx 1
              have g0 := blkFrozen hbx 0
              have g1 := blkFrozen hbx 1
              simp at z0 z1
              exact .inr ⟨(W.setCell ⟨b, 0, none⟩ (.int .i64 (timesS x.f4 hh.f1).f0)).setCell ⟨b, 1, none⟩ (.int .i64 (timesS x.f4 hh.f1).f1), rfl, by rw [hu]; go_simp, st2_below hB_ hbB _ _, hX_.store (e := 13) (b := b) (by simp) rfl (by simp) (by simp) hr hu rfl undef⟩
            · refine ⟨fun r => by rfl, fun r W hr hga hbe ⟨hB_, hX_⟩ => ?_⟩
              dsimp only [putE, Act.put]
              obtain ⟨u, hu⟩ := hga (14, some 12) (by simp) (by decide)
              simp only at hu
              obtain ⟨b, rfl, hbB, hbx⟩ := hX_.at_ 14 (by simp) u hu
              simp only [hr, Option.isSome_none, Bool.false_eq_true, if_false] at hbx
              have z0 := blkCell hbx 0
              have z1 := blkCell hbx 1
              have g0 := blkFrozen hbx 0
              have g1 := blkFrozen hbx 1
              simp at z0 z1
              exact .inr ⟨(W.setCell ⟨b, 0, none⟩ (.int .i64 (timesS x.f4 hh.f2).f0)).setCell ⟨b, 1, none⟩ (.int .i64 (timesS x.f4 hh.f2).f1), rfl, by rw [hu]; go_simp, st2_below hB_ hbB _ _, hX_.store (e := 14) (b := b) (by simp) rfl (by simp) (by simp) hr hu rfl undef⟩
          · rintro r V ⟨hB_, hX_⟩ hall
            obtain ⟨u12, h12⟩ := hall (12, some 10) (by simp)
            obtain ⟨u13, h13⟩ := hall (13, some 11) (by simp)
            obtain ⟨u14, h14⟩ := hall (14, some 12) (by simp)
            obtain ⟨u15, h15⟩ := hall (15, none) (by simp)
            obtain ⟨u16, h16⟩ := hall (16, none) (by simp)
            obtain ⟨u17, h17⟩ := hall (17, none) (by simp)
            simp only at h12 h13 h14 h15 h16 h17
            obtain ⟨b10, rfl, hb10, hx10⟩ := hX_.at_ 12 (by simp) _ h12
            obtain ⟨b11, rfl, hb11, hx11⟩ := hX_.at_ 13 (by simp) _ h13
            obtain ⟨b12, rfl, hb12, hx12⟩ := hX_.at_ 14 (by simp) _ h14
            simp [h15] at hx10
            simp [h16] at hx11
            simp [h17] at hx12
            have HX3 := hid (And.intro hx10 (And.intro hx11 hx12))
            have HBG := hid (show g < b10 ∧ g < b11 ∧ g < b12 by have h1 := HK6.out.rp.lt g rfl; omega)
            have HKV := hid (HK6.out.grow hB_)
            clear hX_ hall hx10 hx11 hx12 hb10 hb11 hb12 hB_ hld hjl2
            dsimp only [putE, Act.put]
            simp only [h12, h13, h14, Option.getD_some, List.drop_succ_cons, List.drop_zero, List.drop_nil]
            clear h12 h13 h14 h15 h16 h17
            obtain ⟨pp, hpp⟩ : ∃ pp, s.ps.getD n z52 = pp := ⟨_, rfl⟩
            have HQZ := hid (show QI w ho fi (some ad) c l (sG s n pp (plusS pp.f0 (glassS x.f4 hh)) (plusS pp.f1 (timesS x.f4 hh.f1)) (plusS pp.f2 (timesS x.f4 hh.f2)) (fun _ => none)) (beforeK s) (.slice (some ⟨gh, 0, none⟩) s.hs.length gc2) (.slice (some ⟨g, 0, none⟩) (n + 1) cap) V from HKV.out.same rfl (sG_none hpp (by have := HN.out; omega)))
            have HS2 := hid (show chargeK s x = { s with ps := s.ps.set n { pp with f0 := plusS pp.f0 (glassS x.f4 hh), f1 := plusS pp.f1 (timesS x.f4 hh.f1), f2 := plusS pp.f2 (timesS x.f4 hh.f2) } } by
              unfold chargeK chargeP KS.last KS.heap
              rw [HN.out, HJH.out]
              simp only [Nat.add_sub_cancel, Int.toNat_natCast]
              rw [hpp, HHR.out.2.2])
            clear hpp
            go_upto_region 16 with fail
            generalize V = W6 at *
            refine wp_flow11 [[], [], [], [], [3], [4, 3], [5, 4, 3], [], [6, 5, 4, 3, 7], [], [9], [10, 9], [11, 10, 9], [], [12, 11, 10, 9, 13, 8, 6, 5, 4, 3, 7], [], [15], [16, 15], [17, 16, 15], [], [18, 17, 16, 15, 19, 14, 12, 11, 10, 9, 13, 8, 6, 5, 4, 3, 7], [0, 3, 4, 5, 6, 7, 8, 12, 11, 10, 9, 14, 13, 18, 17, 16, 15, 20, 19], [21, 0, 3, 4, 5, 6, 7, 8, 12, 11, 10, 9, 14, 13, 18, 17, 16, 15, 20, 19], [22, 21, 0, 3, 4, 5, 6, 7, 8, 12, 11, 10, 9, 14, 13, 18, 17, 16, 15, 20, 19], [1, 0, 3, 4, 5, 6, 7, 8, 9, 10, 11, 12, 13, 14, 18, 17, 16, 15, 20, 19, 21, 22, 23], [24, 1, 0, 3, 4, 5, 6, 7, 8, 9, 10, 11, 12, 13, 14, 18, 17, 16, 15, 20, 19, 21, 22, 23], [25, 24, 1, 0, 3, 4, 5, 6, 7, 8, 9, 10, 11, 12, 13, 14, 18, 17, 16, 15, 20, 19, 21, 22, 23], [2, 0, 1, 3, 4, 5, 6, 7, 8, 9, 10, 11, 12, 13, 14, 15, 16, 17, 18, 19, 20, 21, 22, 23, 24, 25, 26], [27, 2, 0, 1, 3, 4, 5, 6, 7, 8, 9, 10, 11, 12, 13, 14, 15, 16, 17, 18, 19, 20, 21, 22, 23, 24, 25, 26], [28, 27, 2, 0, 1, 3, 4, 5, 6, 7, 8, 9, 10, 11, 12, 13, 14, 15, 16, 17, 18, 19, 20, 21, 22, 23, 24, 25, 26]] 30 [(23, none), (26, none), (29, none)]
              (fun gg V => QI w ho fi (some ad) c l (sG s n pp (plusS pp.f0 (glassS x.f4 hh)) (plusS pp.f1 (timesS x.f4 hh.f1)) (plusS pp.f2 (timesS x.f4 hh.f2)) gg) (beforeK s) (.slice (some ⟨gh, 0, none⟩) s.hs.length gc2) (.slice (some ⟨g, 0, none⟩) (n + 1) cap) V ∧ V.heap[b10]? = some (.cells #[.int .i64 (glassS x.f4 hh).f0, .int .i64 (glassS x.f4 hh).f1] 23 (0, 0)) ∧ V.heap[b11]? = some (.cells #[.int .i64 (timesS x.f4 hh.f1).f0, .int .i64 (timesS x.f4 hh.f1).f1] 23 (0, 0)) ∧ V.heap[b12]? = some (.cells #[.int .i64 (timesS x.f4 hh.f2).f0, .int .i64 (timesS x.f4 hh.f2).f1] 23 (0, 0)))
              { tmps := #[.agg #[.int .i64 ho.f0, .int .i64 ho.f1, .int .i64 fi.f0, .int .i64 fi.f1, .slice (some ad) l.length c], .pointer (some ⟨w.heap.size, 0, none⟩), .slice none 0 0, .slice none 0 0, .slice (some ⟨g, 0, none⟩) (n + 1) cap, .slice (some ⟨gh, 0, none⟩) s.hs.length gc2, .pointer (some ⟨w.heap.size + 1 + 1, 0, none⟩), .int .i64 k, .pointer (some ⟨B5, 0, none⟩), .pointer (some ⟨g, n * 9, none⟩), .pointer (some ⟨b10, 0, none⟩), .pointer (some ⟨b11, 0, none⟩), .pointer (some ⟨b12, 0, none⟩), u13, u14, .agg #[.int .i64 0, .int .i64 0, .int .i64 0, .int .i64 0, .int .i64 0, .int .i64 0, .int .i64 0, .int .i64 0, .int .i64 0], .slice (some ⟨w.heap.size + 1, 0, none⟩) 1 1, .agg #[.int .i64 0, .int .i64 1000], .int .i64 k, .pointer (some ⟨w.heap.size, 4, none⟩), .slice (some ad) l.length c, .int .i64 l.length, .bool true, u23, u24, .pointer (some ⟨w.heap.size, 4, none⟩), .slice (some ad) l.length c, .int .i64 k, .pointer (some (ad.add (k * 11))), .agg #[.int .i64 x.f0, .int .u8 x.f1, .int .i64 x.f2, .int .i64 x.f3, .int .i64 x.f4.f0, .int .i64 x.f4.f1, .int .i64 x.f5.f0, .int .i64 x.f5.f1, .int .i64 x.f6.f0, .int .i64 x.f6.f1, .int .i64 x.f7], .slice (some ⟨g, 0, none⟩) (n + 1) cap, .slice (some ⟨g, 0, none⟩) (n + 1) cap, .int .i64 (n + 1), .int .i64 (wrap64 n), .pointer (some ⟨g, n * 9, none⟩), .pointer (some ⟨B5, 1, none⟩), .int .u8 x.f1, .bool false, .bool false, u39, u40, u41, u42, u43, u44, u45, u46, u47, u48, .bool false, .bool false, u51, u52, u53, u54, u55, u56, u57, .bool true, .bool true, .tuple #[.agg #[.int .i64 (glassS x.f4 hh).f0, .int .i64 (glassS x.f4 hh).f1], .agg #[.int .i64 (timesS x.f4 hh.f1).f0, .int .i64 (timesS x.f4 hh.f1).f1], .agg #[.int .i64 (timesS x.f4 hh.f2).f0, .int .i64 (timesS x.f4 hh.f2).f1]], .slice (some ⟨gh, 0, none⟩) s.hs.length gc2, .pointer (some ⟨B5, 2, none⟩), .int .i64 jh, .pointer (some ⟨gh, jh * 6, none⟩), .agg #[.int .i64 hh.f0.f0, .int .i64 hh.f0.f1, .int .i64 hh.f1.f0, .int .i64 hh.f1.f1, .int .i64 hh.f2.f0, .int .i64 hh.f2.f1], .pointer (some ⟨B5, 4, none⟩), .agg #[.int .i64 x.f4.f0, .int .i64 x.f4.f1], .tuple #[.agg #[.int .i64 (glassS x.f4 hh).f0, .int .i64 (glassS x.f4 hh).f1], .agg #[.int .i64 (timesS x.f4 hh.f1).f0, .int .i64 (timesS x.f4 hh.f1).f1], .agg #[.int .i64 (timesS x.f4 hh.f2).f0, .int .i64 (timesS x.f4 hh.f2).f1]], .agg #[.int .i64 (glassS x.f4 hh).f0, .int .i64 (glassS x.f4 hh).f1], .agg #[.int .i64 (timesS x.f4 hh.f1).f0, .int .i64 (timesS x.f4 hh.f1).f1], .agg #[.int .i64 (timesS x.f4 hh.f2).f0, .int .i64 (timesS x.f4 hh.f2).f1], .pointer (some ⟨g, n * 9, none⟩), .pointer (some ⟨g, n * 9, none⟩), .pointer (some ⟨g, n * 9, none⟩), .pointer (some ⟨g, n * 9, none⟩), .pointer (some ⟨g, n * 9, none⟩), .pointer (some ⟨g, n * 9, none⟩), .agg #[.int .i64 pp.f0.f0, .int .i64 pp.f0.f1], .agg #[.int .i64 ((glassS x.f4 hh).f0), .int .i64 ((glassS x.f4 hh).f1)], .agg #[.int .i64 ((plusS pp.f0 (glassS x.f4 hh)).f0), .int .i64 ((plusS pp.f0 (glassS x.f4 hh)).f1)], .pointer (some ⟨g, n * 9, none⟩), .pointer (some ⟨g, n * 9, none⟩), .pointer (some ⟨g, n * 9 + 2, none⟩), .agg #[.int .i64 pp.f1.f0, .int .i64 pp.f1.f1], .agg #[.int .i64 ((timesS x.f4 hh.f1).f0), .int .i64 ((timesS x.f4 hh.f1).f1)], .agg #[.int .i64 ((plusS pp.f1 (timesS x.f4 hh.f1)).f0), .int .i64 ((plusS pp.f1 (timesS x.f4 hh.f1)).f1)], .pointer (some ⟨g, n * 9, none⟩), .pointer (some ⟨g, n * 9, none⟩), .pointer (some ⟨g, n * 9 + 4, none⟩), .agg #[.int .i64 pp.f2.f0, .int .i64 pp.f2.f1], .agg #[.int .i64 ((timesS x.f4 hh.f2).f0), .int .i64 ((timesS x.f4 hh.f2).f1)], .agg #[.int .i64 ((plusS pp.f2 (timesS x.f4 hh.f2)).f0), .int .i64 ((plusS pp.f2 (timesS x.f4 hh.f2)).f1)], .pointer (some ⟨g, n * 9, none⟩), .pointer (some ⟨g, n * 9, none⟩), .pointer (some ⟨g, n * 9, none⟩), .pointer (some ⟨g, n * 9 + 2, none⟩), .pointer (some ⟨g, n * 9, none⟩), .pointer (some ⟨g, n * 9 + 4, none⟩), u99, u100, u101, u102, u103, u104, u105, u106, u107, u108, u109, u110, u111, u112, u113, u114, u115, u116, u117, u118, u119, u120, u121, u122, u123, u124, u125, u126, u127, u128, u129, u130, u131, u132, u133, u134, u135, u136, u137, u138, u139, u140, u141, u142, u143, u144, u145, u146, u147, u148, u149, u150, u151, undef, undef], defers := [] }
              mixed (by kernel_rfl) rfl (by kernel_rfl) (by kernel_rfl) (by kernel_rfl) (Ahead.of3 72 99 rfl rfl (by kernel_rfl) rfl rfl) ?_ rfl ?_ rfl ?_
            · exact ⟨HQZ.out.grow (Below.refl _ _).drew, HX3.out.1, HX3.out.2.1, HX3.out.2.2⟩
            · refine ⟨?_, ?_, ?_, ?_, ?_, ?_, ?_, ?_, ?_, ?_, ?_, ?_, ?_, ?_, ?_, ?_, ?_, ?_, ?_, ?_, ?_, ?_, ?_, ?_, ?_, ?_, ?_, ?_, ?_, ?_, trivial⟩
              · exact fun g hbe => FlowOp.val 72 _ rfl rfl fun V ⟨hQ_, c0_, c1_, c2_⟩ => by go_simp
              · exact fun g hbe => FlowOp.val 73 _ rfl rfl fun V ⟨hQ_, c0_, c1_, c2_⟩ => by go_simp
              · exact fun g hbe => FlowOp.val 74 _ rfl rfl fun V ⟨hQ_, c0_, c1_, c2_⟩ => by go_simp
              · exact fun g hbe => FlowOp.val 75 _ rfl rfl fun V ⟨hQ_, c0_, c1_, c2_⟩ => by go_simp
              · exact fun g hbe => FlowOp.val 76 _ rfl rfl fun V ⟨hQ_, c0_, c1_, c2_⟩ => by go_simp
              · exact fun g hbe => FlowOp.val 77 _ rfl rfl fun V ⟨hQ_, c0_, c1_, c2_⟩ => by go_simp
              · exact fun g hbe => FlowOp.val 78 _ rfl rfl fun V ⟨hQ_, c0_, c1_, c2_⟩ => by obtain ⟨q0, q1⟩ := sG_cells0 hQ_ HN.out (hbe (23, none) (by simp) (by decide)); go_simp
              · exact fun g hbe => FlowOp.val 79 _ rfl rfl fun V ⟨hQ_, c0_, c1_, c2_⟩ => by have y0 := blkCell c0_ 0; have y1 := blkCell c0_ 1; simp at y0 y1; go_simp
              · intro g hbe
                refine FlowOp.call 80 (.agg #[.int .i64 ((plusS pp.f0 (glassS x.f4 hh)).f0), .int .i64 ((plusS pp.f0 (glassS x.f4 hh)).f1)]) 65 #[.agg #[.int .i64 pp.f0.f0, .int .i64 pp.f0.f1], .agg #[.int .i64 ((glassS x.f4 hh).f0), .int .i64 ((glassS x.f4 hh).f1)]] rfl rfl (fun V ⟨hQ_, c0_, c1_, c2_⟩ => by go_simp) fun V ⟨hQ_, c0_, c1_, c2_⟩ => ?_
                refine (plusR_any pp.f0 (glassS x.f4 hh) _).mono ?_
                rintro e w' ⟨rfl, hb⟩
                exact ⟨rfl, hQ_.grow hb, heap_grow c0_ hb, heap_grow c1_ hb, heap_grow c2_ hb⟩
              · exact fun g hbe => FlowOp.val 81 _ rfl rfl fun V ⟨hQ_, c0_, c1_, c2_⟩ => by go_simp
              · exact fun g hbe => FlowOp.val 82 _ rfl rfl fun V ⟨hQ_, c0_, c1_, c2_⟩ => by go_simp
              · exact fun g hbe => FlowOp.val 83 _ rfl rfl fun V ⟨hQ_, c0_, c1_, c2_⟩ => by go_simp
              · exact fun g hbe => FlowOp.val 84 _ rfl rfl fun V ⟨hQ_, c0_, c1_, c2_⟩ => by obtain ⟨q0, q1⟩ := sG_cells1 hQ_ HN.out (hbe (26, none) (by simp) (by decide)); go_simp
              · exact fun g hbe => FlowOp.val 85 _ rfl rfl fun V ⟨hQ_, c0_, c1_, c2_⟩ => by have y0 := blkCell c1_ 0; have y1 := blkCell c1_ 1; simp at y0 y1; go_simp
              · intro g hbe
                refine FlowOp.call 86 (.agg #[.int .i64 ((plusS pp.f1 (timesS x.f4 hh.f1)).f0), .int .i64 ((plusS pp.f1 (timesS x.f4 hh.f1)).f1)]) 65 #[.agg #[.int .i64 pp.f1.f0, .int .i64 pp.f1.f1], .agg #[.int .i64 ((timesS x.f4 hh.f1).f0), .int .i64 ((timesS x.f4 hh.f1).f1)]] rfl rfl (fun V ⟨hQ_, c0_, c1_, c2_⟩ => by go_simp) fun V ⟨hQ_, c0_, c1_, c2_⟩ => ?_
                refine (plusR_any pp.f1 (timesS x.f4 hh.f1) _).mono ?_
                rintro e w' ⟨rfl, hb⟩
                exact ⟨rfl, hQ_.grow hb, heap_grow c0_ hb, heap_grow c1_ hb, heap_grow c2_ hb⟩
              · exact fun g hbe => FlowOp.val 87 _ rfl rfl fun V ⟨hQ_, c0_, c1_, c2_⟩ => by go_simp
              · exact fun g hbe => FlowOp.val 88 _ rfl rfl fun V ⟨hQ_, c0_, c1_, c2_⟩ => by go_simp
              · exact fun g hbe => FlowOp.val 89 _ rfl rfl fun V ⟨hQ_, c0_, c1_, c2_⟩ => by go_simp
              · exact fun g hbe => FlowOp.val 90 _ rfl rfl fun V ⟨hQ_, c0_, c1_, c2_⟩ => by obtain ⟨q0, q1⟩ := sG_cells2 hQ_ HN.out (hbe (29, none) (by simp) (by decide)); go_simp
              · exact fun g hbe => FlowOp.val 91 _ rfl rfl fun V ⟨hQ_, c0_, c1_, c2_⟩ => by have y0 := blkCell c2_ 0; have y1 := blkCell c2_ 1; simp at y0 y1; go_simp
              · intro g hbe
                refine FlowOp.call 92 (.agg #[.int .i64 ((plusS pp.f2 (timesS x.f4 hh.f2)).f0), .int .i64 ((plusS pp.f2 (timesS x.f4 hh.f2)).f1)]) 65 #[.agg #[.int .i64 pp.f2.f0, .int .i64 pp.f2.f1], .agg #[.int .i64 ((timesS x.f4 hh.f2).f0), .int .i64 ((timesS x.f4 hh.f2).f1)]] rfl rfl (fun V ⟨hQ_, c0_, c1_, c2_⟩ => by go_simp) fun V ⟨hQ_, c0_, c1_, c2_⟩ => ?_
                refine (plusR_any pp.f2 (timesS x.f4 hh.f2) _).mono ?_
                rintro e w' ⟨rfl, hb⟩
                exact ⟨rfl, hQ_.grow hb, heap_grow c0_ hb, heap_grow c1_ hb, heap_grow c2_ hb⟩
              · exact fun g hbe => FlowOp.val 93 _ rfl rfl fun V ⟨hQ_, c0_, c1_, c2_⟩ => by go_simp
              · exact fun g hbe => FlowOp.val 94 _ rfl rfl fun V ⟨hQ_, c0_, c1_, c2_⟩ => by go_simp
              · refine ⟨fun r => by rfl, fun r W hr hga hbe ⟨hQ_, c0_, c1_, c2_⟩ => ?_⟩
                dsimp only [putE, Act.put]
                obtain ⟨q0, q1⟩ := sG_cells0 hQ_ HN.out hr
                have g0 := hQ_.pfrozen (sG_len HN.out) (n * 9)
                have g1 := hQ_.pfrozen (sG_len HN.out) (n * 9 + 1)
                have hQ2 := hQ_.span0 (sG_len HN.out) (k := n) (by rw [sG_len HN.out]; omega) (plusS pp.f0 (glassS x.f4 hh))
                rw [sG_set0 (by have := HN.out; omega) hr] at hQ2
                exact .inr ⟨_, rfl, by go_simp, hQ2, set_other (p := ⟨g, n * 9 + 1, none⟩) (v := (.int .i64 (plusS pp.f0 (glassS x.f4 hh)).f1)) (show b10 ≠ g by have := HBG.out; omega) (set_other (p := ⟨g, n * 9, none⟩) (v := (.int .i64 (plusS pp.f0 (glassS x.f4 hh)).f0)) (show b10 ≠ g by have := HBG.out; omega) c0_), set_other (p := ⟨g, n * 9 + 1, none⟩) (v := (.int .i64 (plusS pp.f0 (glassS x.f4 hh)).f1)) (show b11 ≠ g by have := HBG.out; omega) (set_other (p := ⟨g, n * 9, none⟩) (v := (.int .i64 (plusS pp.f0 (glassS x.f4 hh)).f0)) (show b11 ≠ g by have := HBG.out; omega) c1_), set_other (p := ⟨g, n * 9 + 1, none⟩) (v := (.int .i64 (plusS pp.f0 (glassS x.f4 hh)).f1)) (show b12 ≠ g by have := HBG.out; omega) (set_other (p := ⟨g, n * 9, none⟩) (v := (.int .i64 (plusS pp.f0 (glassS x.f4 hh)).f0)) (show b12 ≠ g by have := HBG.out; omega) c2_)⟩
              · exact fun g hbe => FlowOp.val 95 _ rfl rfl fun V ⟨hQ_, c0_, c1_, c2_⟩ => by go_simp
              · exact fun g hbe => FlowOp.val 96 _ rfl rfl fun V ⟨hQ_, c0_, c1_, c2_⟩ => by go_simp
              · refine ⟨fun r => by rfl, fun r W hr hga hbe ⟨hQ_, c0_, c1_, c2_⟩ => ?_⟩
                dsimp only [putE, Act.put]
                obtain ⟨q0, q1⟩ := sG_cells1 hQ_ HN.out hr
                have g0 := hQ_.pfrozen (sG_len HN.out) (n * 9 + 2)
                have g1 := hQ_.pfrozen (sG_len HN.out) (n * 9 + 3)
                have hQ2 := hQ_.span1 (sG_len HN.out) (k := n) (by rw [sG_len HN.out]; omega) (plusS pp.f1 (timesS x.f4 hh.f1))
                rw [sG_set1 (by have := HN.out; omega) hr] at hQ2
                exact .inr ⟨_, rfl, by go_simp, hQ2, set_other (p := ⟨g, n * 9 + 3, none⟩) (v := (.int .i64 (plusS pp.f1 (timesS x.f4 hh.f1)).f1)) (show b10 ≠ g by have := HBG.out; omega) (set_other (p := ⟨g, n * 9 + 2, none⟩) (v := (.int .i64 (plusS pp.f1 (timesS x.f4 hh.f1)).f0)) (show b10 ≠ g by have := HBG.out; omega) c0_), set_other (p := ⟨g, n * 9 + 3, none⟩) (v := (.int .i64 (plusS pp.f1 (timesS x.f4 hh.f1)).f1)) (show b11 ≠ g by have := HBG.out; omega) (set_other (p := ⟨g, n * 9 + 2, none⟩) (v := (.int .i64 (plusS pp.f1 (timesS x.f4 hh.f1)).f0)) (show b11 ≠ g by have := HBG.out; omega) c1_), set_other (p := ⟨g, n * 9 + 3, none⟩) (v := (.int .i64 (plusS pp.f1 (timesS x.f4 hh.f1)).f1)) (show b12 ≠ g by have := HBG.out; omega) (set_other (p := ⟨g, n * 9 + 2, none⟩) (v := (.int .i64 (plusS pp.f1 (timesS x.f4 hh.f1)).f0)) (show b12 ≠ g by have := HBG.out; omega) c2_)⟩
              · exact fun g hbe => FlowOp.val 97 _ rfl rfl fun V ⟨hQ_, c0_, c1_, c2_⟩ => by go_simp
              · exact fun g hbe => FlowOp.val 98 _ rfl rfl fun V ⟨hQ_, c0_, c1_, c2_⟩ => by go_simp
              · refine ⟨fun r => by rfl, fun r W hr hga hbe ⟨hQ_, c0_, c1_, c2_⟩ => ?_⟩
                dsimp only [putE, Act.put]
                obtain ⟨q0, q1⟩ := sG_cells2 hQ_ HN.out hr
                have g0 := hQ_.pfrozen (sG_len HN.out) (n * 9 + 4)
                have g1 := hQ_.pfrozen (sG_len HN.out) (n * 9 + 5)
                have hQ2 := hQ_.span2 (sG_len HN.out) (k := n) (by rw [sG_len HN.out]; omega) (plusS pp.f2 (timesS x.f4 hh.f2))
                rw [sG_set2 (by have := HN.out; omega) hr] at hQ2
                exact .inr ⟨_, rfl, by go_simp, hQ2, set_other (p := ⟨g, n * 9 + 5, none⟩) (v := (.int .i64 (plusS pp.f2 (timesS x.f4 hh.f2)).f1)) (show b10 ≠ g by have := HBG.out; omega) (set_other (p := ⟨g, n * 9 + 4, none⟩) (v := (.int .i64 (plusS pp.f2 (timesS x.f4 hh.f2)).f0)) (show b10 ≠ g by have := HBG.out; omega) c0_), set_other (p := ⟨g, n * 9 + 5, none⟩) (v := (.int .i64 (plusS pp.f2 (timesS x.f4 hh.f2)).f1)) (show b11 ≠ g by have := HBG.out; omega) (set_other (p := ⟨g, n * 9 + 4, none⟩) (v := (.int .i64 (plusS pp.f2 (timesS x.f4 hh.f2)).f0)) (show b11 ≠ g by have := HBG.out; omega) c1_), set_other (p := ⟨g, n * 9 + 5, none⟩) (v := (.int .i64 (plusS pp.f2 (timesS x.f4 hh.f2)).f1)) (show b12 ≠ g by have := HBG.out; omega) (set_other (p := ⟨g, n * 9 + 4, none⟩) (v := (.int .i64 (plusS pp.f2 (timesS x.f4 hh.f2)).f0)) (show b12 ≠ g by have := HBG.out; omega) c2_)⟩
            · rintro r V ⟨hQ_, c0_, c1_, c2_⟩ hall
              obtain ⟨u23, h23⟩ := hall (23, none) (by simp)
              obtain ⟨u26, h26⟩ := hall (26, none) (by simp)
              obtain ⟨u29, h29⟩ := hall (29, none) (by simp)
              simp only at h23 h26 h29
              have HF := hid (hQ_.same (s' := chargeK s x) (by rw [HS2.out]; rfl) (by rw [HS2.out]; unfold sG; simp [h23, h26, h29]))
              clear hQ_ c0_ c1_ c2_ hall h23 h26 h29
              dsimp only [putE, Act.put]
              simp only [List.drop_succ_cons, List.drop_zero, List.drop_nil]
              go_wp2
              go_meet
              case rel => exact ⟨rfl, hid (by rw [HS.out.2, HS.out.1]; exact HF.out)⟩
        by_cases hk4 : x.f1 = 4
        · have HS := hid (And.intro (show stepK s x = packK s x by unfold stepK; simp [hk4]) (show beforeK (stepK s x) = beforeK s by rw [before_step (by have := HN.out; omega), if_neg (by omega)]))
          have HKE := hid hk4
          clear hk4
          have f1 : (x.f1 == 1) = false := by simp [HKE.out]
          have f5 : (x.f1 == 5) = false := by simp [HKE.out]
          have f2 : (x.f1 == 2) = false := by simp [HKE.out]
          have f4 : (x.f1 == 4) = true := by simp [HKE.out]
          obtain ⟨pp, hpp⟩ : ∃ pp, s.ps.getD n z52 = pp := ⟨_, rfl⟩
          have q0 := HK6.out.pcell HN.out (k := n) (j := 6) (by omega) (by omega)
          have q1 := HK6.out.pcell HN.out (k := n) (j := 7) (by omega) (by omega)
          rw [hpp] at q0 q1
          simp [pC] at q0 q1
          have HS2 := hid (show (packK s x).ps = s.ps.set n { s.ps.getD n z52 with f3 := plusS pp.f3 x.f4 } by unfold packK KS.last; rw [HN.out]; simp only [Nat.add_sub_cancel]; rw [hpp])
          clear hpp
          go_upto_region 18 with fail
          refine wp_flow [[], [], [1], [2, 1], [3, 2, 1], [], [5], [4, 3, 2, 1, 6, 5], [0, 1, 2, 3, 4, 5, 6, 7], [8, 0, 1, 2, 3, 4, 5, 6, 7], [9, 8, 0, 1, 2, 3, 4, 5, 6, 7]] 8
            (fun V => V.cell? ⟨B5, 0, none⟩ = some (.int .i64 x.f0) ∧ V.cell? ⟨B5, 1, none⟩ = some (.int .u8 x.f1) ∧ V.cell? ⟨B5, 2, none⟩ = some (.int .i64 x.f2) ∧ V.cell? ⟨B5, 3, none⟩ = some (.int .i64 x.f3) ∧ V.cell? ⟨B5, 4, none⟩ = some (.int .i64 x.f4.f0) ∧ V.cell? ⟨B5, 5, none⟩ = some (.int .i64 x.f4.f1) ∧ V.cell? ⟨B5, 6, none⟩ = some (.int .i64 x.f5.f0) ∧ V.cell? ⟨B5, 7, none⟩ = some (.int .i64 x.f5.f1) ∧ V.cell? ⟨B5, 8, none⟩ = some (.int .i64 x.f6.f0) ∧ V.cell? ⟨B5, 9, none⟩ = some (.int .i64 x.f6.f1) ∧ V.cell? ⟨B5, 10, none⟩ = some (.int .i64 x.f7) ∧ V.cell? ⟨g, n * 9 + 6, none⟩ = some (.int .i64 pp.f3.f0) ∧ V.cell? ⟨g, n * 9 + 7, none⟩ = some (.int .i64 pp.f3.f1) ∧ Below W6.heap.size W6 V)
            { tmps := #[.agg #[.int .i64 ho.f0, .int .i64 ho.f1, .int .i64 fi.f0, .int .i64 fi.f1, .slice (some ad) l.length c], .pointer (some ⟨w.heap.size, 0, none⟩), .slice none 0 0, .slice none 0 0, .slice (some ⟨g, 0, none⟩) (n + 1) cap, vh, .pointer (some ⟨w.heap.size + 1 + 1, 0, none⟩), .int .i64 k, .pointer (some ⟨B5, 0, none⟩), .pointer (some ⟨g, n * 9, none⟩), u10, u11, u12, u13, u14, .agg #[.int .i64 0, .int .i64 0, .int .i64 0, .int .i64 0, .int .i64 0, .int .i64 0, .int .i64 0, .int .i64 0, .int .i64 0], .slice (some ⟨w.heap.size + 1, 0, none⟩) 1 1, .agg #[.int .i64 0, .int .i64 1000], .int .i64 k, .pointer (some ⟨w.heap.size, 4, none⟩), .slice (some ad) l.length c, .int .i64 l.length, .bool true, u23, u24, .pointer (some ⟨w.heap.size, 4, none⟩), .slice (some ad) l.length c, .int .i64 k, .pointer (some (ad.add (k * 11))), .agg #[.int .i64 x.f0, .int .u8 x.f1, .int .i64 x.f2, .int .i64 x.f3, .int .i64 x.f4.f0, .int .i64 x.f4.f1, .int .i64 x.f5.f0, .int .i64 x.f5.f1, .int .i64 x.f6.f0, .int .i64 x.f6.f1, .int .i64 x.f7], .slice (some ⟨g, 0, none⟩) (n + 1) cap, .slice (some ⟨g, 0, none⟩) (n + 1) cap, .int .i64 (n + 1), .int .i64 (wrap64 n), .pointer (some ⟨g, n * 9, none⟩), .pointer (some ⟨B5, 1, none⟩), .int .u8 x.f1, .bool false, .bool false, u39, u40, u41, u42, u43, u44, u45, u46, u47, u48, .bool false, .bool false, u51, u52, u53, u54, u55, u56, u57, .bool false, .bool false, u60, u61, u62, u63, u64, u65, u66, u67, u68, u69, u70, u71, u72, u73, u74, u75, u76, u77, u78, u79, u80, u81, u82, u83, u84, u85, u86, u87, u88, u89, u90, u91, u92, u93, u94, u95, u96, u97, u98, .bool true, .bool true, .pointer (some ⟨g, n * 9, none⟩), .pointer (some ⟨g, n * 9, none⟩), .pointer (some ⟨g, n * 9, none⟩), .pointer (some ⟨g, n * 9 + 6, none⟩), .agg #[.int .i64 pp.f3.f0, .int .i64 pp.f3.f1], .pointer (some ⟨B5, 4, none⟩), .agg #[.int .i64 x.f4.f0, .int .i64 x.f4.f1], .agg #[.int .i64 ((plusS pp.f3 x.f4).f0), .int .i64 ((plusS pp.f3 x.f4).f1)], u109, u110, u111, u112, u113, u114, u115, u116, u117, u118, u119, u120, u121, u122, u123, u124, u125, u126, u127, u128, u129, u130, u131, u132, u133, u134, u135, u136, u137, u138, u139, u140, u141, u142, u143, u144, u145, u146, u147, u148, u149, u150, u151, undef, undef], defers := [] }
            mixed (by kernel_rfl) rfl (Ahead.of3 101 109 rfl rfl (by kernel_rfl) rfl rfl) ?_ (AllFlow.ops rfl ?_) rfl ?_
          · exact ⟨blkCell HE5.out 0, blkCell HE5.out 1, blkCell HE5.out 2, blkCell HE5.out 3, blkCell HE5.out 4, blkCell HE5.out 5, blkCell HE5.out 6, blkCell HE5.out 7, blkCell HE5.out 8, blkCell HE5.out 9, blkCell HE5.out 10, q0, q1, (Below.refl _ _).drew⟩
          · refine ⟨?_, ?_, ?_, ?_, ?_, ?_, ?_, ?_, trivial⟩
            · exact .val 101 _ rfl rfl fun V ⟨y0, y1, y2, y3, y4, y5, y6, y7, y8, y9, y10, x0, x1, hB_⟩ => by go_simp
            · exact .val 102 _ rfl rfl fun V ⟨y0, y1, y2, y3, y4, y5, y6, y7, y8, y9, y10, x0, x1, hB_⟩ => by go_simp
            · exact .val 103 _ rfl rfl fun V ⟨y0, y1, y2, y3, y4, y5, y6, y7, y8, y9, y10, x0, x1, hB_⟩ => by go_simp
            · exact .val 104 _ rfl rfl fun V ⟨y0, y1, y2, y3, y4, y5, y6, y7, y8, y9, y10, x0, x1, hB_⟩ => by go_simp
            · exact .val 105 _ rfl rfl fun V ⟨y0, y1, y2, y3, y4, y5, y6, y7, y8, y9, y10, x0, x1, hB_⟩ => by go_simp
            · exact .val 106 _ rfl rfl fun V ⟨y0, y1, y2, y3, y4, y5, y6, y7, y8, y9, y10, x0, x1, hB_⟩ => by go_simp
            · exact .val 107 _ rfl rfl fun V ⟨y0, y1, y2, y3, y4, y5, y6, y7, y8, y9, y10, x0, x1, hB_⟩ => by go_simp
            · refine .call 108 (.agg #[.int .i64 ((plusS pp.f3 x.f4).f0), .int .i64 ((plusS pp.f3 x.f4).f1)]) 65 #[.agg #[.int .i64 pp.f3.f0, .int .i64 pp.f3.f1], .agg #[.int .i64 x.f4.f0, .int .i64 x.f4.f1]] rfl rfl (fun V ⟨y0, y1, y2, y3, y4, y5, y6, y7, y8, y9, y10, x0, x1, hB_⟩ => by go_simp) fun V ⟨y0, y1, y2, y3, y4, y5, y6, y7, y8, y9, y10, x0, x1, hB_⟩ => ?_
              refine (plusR_any pp.f3 x.f4 _).mono ?_
              rintro e w' ⟨rfl, hb⟩
              exact ⟨rfl, cell_grow y0 hb, cell_grow y1 hb, cell_grow y2 hb, cell_grow y3 hb, cell_grow y4 hb, cell_grow y5 hb, cell_grow y6 hb, cell_grow y7 hb, cell_grow y8 hb, cell_grow y9 hb, cell_grow y10 hb, cell_grow x0 hb, cell_grow x1 hb, hB_.trans (hb.mono hB_.size)⟩
          rintro V ⟨y0, y1, y2, y3, y4, y5, y6, y7, y8, y9, y10, x0, x1, hB_⟩
          have hQ := HK6.out.grow hB_
          have g0 := hQ.pfrozen HN.out (n * 9 + 6)
          have g1 := hQ.pfrozen HN.out (n * 9 + 7)
          have hQ2 := hQ.span3 HN.out (k := n) (by have := HN.out; omega) (plusS pp.f3 x.f4)
          have HF := hid (hQ2.same (s' := packK s x) rfl HS2.out.symm)
          clear hQ hQ2 hB_ y0 y1 y2 y3 y4 y5 y6 y7 y8 y9 y10 q0 q1
          go_wp2
          go_meet
          case rel => exact ⟨rfl, hid (by rw [HS.out.2, HS.out.1]; exact HF.out)⟩
        by_cases hk6 : x.f1 = 6
        · have HS := hid (And.intro (show stepK s x = closeK s by unfold stepK; simp [hk6]) (show beforeK (stepK s x) = shareS s.last by rw [before_step (by have := HN.out; omega), if_pos hk6]))
          have HKE := hid hk6
          clear hk6
          have f1 : (x.f1 == 1) = false := by simp [HKE.out]
          have f5 : (x.f1 == 5) = false := by simp [HKE.out]
          have f2 : (x.f1 == 2) = false := by simp [HKE.out]
          have f4 : (x.f1 == 4) = false := by simp [HKE.out]
          have f6 : (x.f1 == 6) = true := by simp [HKE.out]
          obtain ⟨pp, hpp⟩ : ∃ pp, s.ps.getD n z52 = pp := ⟨_, rfl⟩
          have hq : ∀ j, j < 9 → W6.cell? ⟨g, n * 9 + j, none⟩ = (pC pp)[j]? := fun j hj => by rw [← hpp]; exact HK6.out.pcell HN.out (k := n) (by omega) hj
          have q0 : W6.cell? ⟨g, n * 9, none⟩ = some (.int .i64 pp.f0.f0) := hq 0 (by omega)
          have q1 := hq 1 (by omega)
          have q2 := hq 2 (by omega)
          have q3 := hq 3 (by omega)
          have q4 := hq 4 (by omega)
          have q5 := hq 5 (by omega)
          have q6 := hq 6 (by omega)
          have q7 := hq 7 (by omega)
          have q8 := hq 8 (by omega)
          simp [pC] at q1 q2 q3 q4 q5 q6 q7 q8
          have HLA := hid (show s.last = pp by unfold KS.last; rw [HN.out]; exact hpp)
          clear hq hpp
          go_wp2_with fail
          refine (shareR_any pp _).mono ?_
          rintro e WS ⟨rfl, hb⟩
          have HKS := hid (HK6.out.grow hb)
          clear hb q0 q1 q2 q3 q4 q5 q6 q7 q8
          rw [HLA.out] at HS
          obtain ⟨sh, hsh⟩ : ∃ sh, shareS pp = sh := ⟨_, rfl⟩
          rw [hsh] at HS
          rw [hsh]
          clear hsh
          have z0 := blkCell HKS.out.st 0
          have z1 := blkCell HKS.out.st 1
          have g0 := blkFrozen HKS.out.st 0
          have g1 := blkFrozen HKS.out.st 1
          simp at z0 z1
          go_upto_region 21 with fail
          have hK7' := HKS.out.before sh
          generalize ((WS.setCell ⟨w.heap.size + 1 + 1, 0, none⟩ (.int .i64 sh.f0)).setCell ⟨w.heap.size + 1 + 1, 1, none⟩ (.int .i64 sh.f1)) = W6 at *
          have HK6' := hid hK7'
          clear z0 z1 g0 g1 hK7' HKS HK6 HE5
          have HK6 := hid HK6'.out
          clear HK6'
          go_wp2_with (at_builtin; refine Hid.out ?_)
          refine hid ?_
          have hgr := (Below.refl W6.heap.size W6).alloc (Nat.le_refl _) (.cells #[.int .i64 0, .int .i64 0, .int .i64 0, .int .i64 0, .int .i64 0, .int .i64 0, .int .i64 0, .int .i64 0, .int .i64 0] 52)
          have hnew := World.alloc_heap_new W6 (.cells #[.int .i64 0, .int .i64 0, .int .i64 0, .int .i64 0, .int .i64 0, .int .i64 0, .int .i64 0, .int .i64 0, .int .i64 0] 52)
          have hK7 := HK6.out.grow hgr
          have hs7 : w.heap.size + 1 ≤ (W6.alloc (.cells #[.int .i64 0, .int .i64 0, .int .i64 0, .int .i64 0, .int .i64 0, .int .i64 0, .int .i64 0, .int .i64 0, .int .i64 0] 52)).heap.size := by have := hK7.be.size; have := cell_lt (blkCell hK7.st 1); omega
          generalize W6.alloc (.cells #[.int .i64 0, .int .i64 0, .int .i64 0, .int .i64 0, .int .i64 0, .int .i64 0, .int .i64 0, .int .i64 0, .int .i64 0] 52) = W7 at *
          generalize W6.heap.size = B6 at *
          have hrp7 := hK7.rp
          rw [HN.out] at hrp7
          obtain ⟨i0, hi, hz0, hz1, hz2⟩ := info52'
          refine wpList_append_own W7 rfl _ _ 46 rfl (w.heap.size + 1) 52 i0 _ 9 72 Try.underlying46 hi hz0 hz1 hz2 rfl (by decide) (.slice (some ⟨g, 0, none⟩) (n + 1) cap) (n + 1) (pF s.ps) rfl hrp7 ⟨B6, 0, none⟩ 1 1 (pC z52) rfl rfl (row_cells hnew) (by simp [pC, z52, z23, Value.oneCell']) (by have := HLN.out; have := HN.out; unfold maxLen; omega) (by have := HLN.out; have := HN.out; omega) hs7 ?_
          intro v' W8 hown' hgrow _
          have hK9 := hK7.close z52 (by rw [HN.out]; exact hown') hgrow
          obtain ⟨g', cap', rfl⟩ := ownsRow_succ hown'
          have HF := hid hK9
          clear hgr hnew hK7 hs7 hi hz0 hz1 hz2 hown' hgrow hK9 hrp7
          go_wp2
          go_meet
          case rel => exact ⟨rfl, hid (by rw [HS.out.2, HS.out.1]; exact HF.out)⟩
        by_cases hk7 : x.f1 = 7
        · have HS := hid (And.intro (show stepK s x = claimK s x by unfold stepK; simp [hk7]) (show beforeK (stepK s x) = beforeK s by rw [before_step (by have := HN.out; omega), if_neg (by omega)]))
          have HKE := hid hk7
          clear hk7
          have f1 : (x.f1 == 1) = false := by simp [HKE.out]
          have f5 : (x.f1 == 5) = false := by simp [HKE.out]
          have f2 : (x.f1 == 2) = false := by simp [HKE.out]
          have f4 : (x.f1 == 4) = false := by simp [HKE.out]
          have f6 : (x.f1 == 6) = false := by simp [HKE.out]
          have f7 : (x.f1 == 7) = true := by simp [HKE.out]
          obtain ⟨p0, hf7, hp7, hl7⟩ := HSO.out.claim HKE.out
          obtain ⟨a, hal, hidx, hat⟩ := HPK.out x.f3 p0 hf7
          obtain ⟨pj, hpj⟩ : ∃ pj, cnt (isKind 6) (l.take a) = pj := ⟨_, rfl⟩
          rw [hpj] at hat
          have hat2 : p0.2 = s.at x.f3 := by unfold KS.at; rw [hf7]; rfl
          rw [hat2, hat] at hl7
          simp only at hl7
          obtain ⟨sp, hsp⟩ : ∃ sp, l[a].f4 = sp := ⟨_, rfl⟩
          rw [hsp] at hat
          have HAT := hid hat
          have hpl : pj < s.ps.length := by omega
          have hpn : pj < n + 1 := by have := HN.out; omega
          have HPJ := hid hpj
          have HAL := hid hal
          clear hf7 hp7 hl7 hat hat2 hpj
          have y3 := blkCell HE5.out 3
          have y4 := blkCell HK6.out.bx 4
          simp at y3 y4
          go_wp2_with fail
          refine (findR_any (some ad) c l 4 x.f3 _ (Kd.C_below hr HK6.out.be) hc (by omega)).mono ?_
          rintro e WF ⟨rfl, hb⟩
          rw [hidx]
          have HKF := hid (HK6.out.grow hb)
          have HEF := hid (heap_grow HE5.out hb)
          clear hb y3 y4 hidx HE5 HK6
          have y4 := blkCell HKF.out.bx 4
          simp at y4
          go_wp2_with fail
          refine (periodR_any (some ad) c l a _ (Kd.C_below hr HKF.out.be) hc (by omega) (by omega)).mono ?_
          rintro e WP ⟨rfl, hb⟩
          rw [HPJ.out]
          have HK7 := hid (HKF.out.grow hb)
          have HE7 := hid (heap_grow HEF.out hb)
          clear hb y4 HKF HEF
          have hpn2 : (pj : Int) < (n : Int) + 1 := by omega
          have hpn3 : (pj : Int) < ((n + 1 : Nat) : Int) := by omega
          obtain ⟨pp, hpp⟩ : ∃ pp, s.ps.getD pj z52 = pp := ⟨_, rfl⟩
          have q0 := HK7.out.pcell HN.out (k := pj) (j := 8) (by omega) (by omega)
          rw [hpp] at q0
          simp [pC] at q0
          have hcc := at_T36 (Kd.C_below hr HK7.out.be) a (by omega) (by have := HAL.out; omega)
          rw [rdP HAL.out] at hcc
          simp only [Int.toNat_natCast] at hcc
          obtain ⟨ad', had, _, _, _, _, _, k5, _⟩ := hcc
          cases had
          rw [hsp] at k5
          have hal2 : (a : Int) < (l.length : Int) := by have := HAL.out; omega
          have HS2 := hid (show (claimK s x).ps = s.ps.set pj { s.ps.getD pj z52 with f4 := wrap64 (pp.f4 + wrap64 (x.f7 * sp.f1)) } by unfold claimK claimP; rw [HAT.out]; simp only [Int.toNat_natCast]; rw [hpp])
          clear hpp hsp
          go_upto_region 25 with fail
          refine wp_flow [[], [], [1], [2, 1], [3, 2, 1], [], [5], [], [7], [], [8, 7, 9], [10, 8, 7, 9], [11, 10, 8, 7, 9], [12, 11, 10, 8, 7, 9], [6, 5, 13, 12, 11, 10, 8, 7, 9], [4, 3, 2, 1, 14, 6, 5, 13, 12, 11, 10, 8, 7, 9], [0, 1, 2, 3, 4, 5, 6, 7, 8, 9, 10, 11, 12, 13, 14, 15], [16, 0, 1, 2, 3, 4, 5, 6, 7, 8, 9, 10, 11, 12, 13, 14, 15], [17, 16, 0, 1, 2, 3, 4, 5, 6, 7, 8, 9, 10, 11, 12, 13, 14, 15]] 16
            (fun V => V.cell? ⟨B5, 0, none⟩ = some (.int .i64 x.f0) ∧ V.cell? ⟨B5, 1, none⟩ = some (.int .u8 x.f1) ∧ V.cell? ⟨B5, 2, none⟩ = some (.int .i64 x.f2) ∧ V.cell? ⟨B5, 3, none⟩ = some (.int .i64 x.f3) ∧ V.cell? ⟨B5, 4, none⟩ = some (.int .i64 x.f4.f0) ∧ V.cell? ⟨B5, 5, none⟩ = some (.int .i64 x.f4.f1) ∧ V.cell? ⟨B5, 6, none⟩ = some (.int .i64 x.f5.f0) ∧ V.cell? ⟨B5, 7, none⟩ = some (.int .i64 x.f5.f1) ∧ V.cell? ⟨B5, 8, none⟩ = some (.int .i64 x.f6.f0) ∧ V.cell? ⟨B5, 9, none⟩ = some (.int .i64 x.f6.f1) ∧ V.cell? ⟨B5, 10, none⟩ = some (.int .i64 x.f7) ∧ V.cell? ⟨w.heap.size, 0, none⟩ = some (.int .i64 ho.f0) ∧ V.cell? ⟨w.heap.size, 1, none⟩ = some (.int .i64 ho.f1) ∧ V.cell? ⟨w.heap.size, 2, none⟩ = some (.int .i64 fi.f0) ∧ V.cell? ⟨w.heap.size, 3, none⟩ = some (.int .i64 fi.f1) ∧ V.cell? ⟨w.heap.size, 4, none⟩ = some (.slice (some ad) l.length c) ∧ V.cell? ⟨g, pj * 9 + 8, none⟩ = some (.int .i64 pp.f4) ∧ V.cell? ⟨(ad.add (a * 11)).block, (ad.add (a * 11)).off + 5, none⟩ = some (.int .i64 sp.f1) ∧ Below WP.heap.size WP V)
            { tmps := #[.agg #[.int .i64 ho.f0, .int .i64 ho.f1, .int .i64 fi.f0, .int .i64 fi.f1, .slice (some ad) l.length c], .pointer (some ⟨w.heap.size, 0, none⟩), .slice none 0 0, .slice none 0 0, .slice (some ⟨g, 0, none⟩) (n + 1) cap, vh, .pointer (some ⟨w.heap.size + 1 + 1, 0, none⟩), .int .i64 k, .pointer (some ⟨B5, 0, none⟩), .pointer (some ⟨g, n * 9, none⟩), u10, u11, u12, .int .i64 ((a : Int)), .pointer (some ⟨g, pj * 9, none⟩), .agg #[.int .i64 0, .int .i64 0, .int .i64 0, .int .i64 0, .int .i64 0, .int .i64 0, .int .i64 0, .int .i64 0, .int .i64 0], .slice (some ⟨w.heap.size + 1, 0, none⟩) 1 1, .agg #[.int .i64 0, .int .i64 1000], .int .i64 k, .pointer (some ⟨w.heap.size, 4, none⟩), .slice (some ad) l.length c, .int .i64 l.length, .bool true, u23, u24, .pointer (some ⟨w.heap.size, 4, none⟩), .slice (some ad) l.length c, .int .i64 k, .pointer (some (ad.add (k * 11))), .agg #[.int .i64 x.f0, .int .u8 x.f1, .int .i64 x.f2, .int .i64 x.f3, .int .i64 x.f4.f0, .int .i64 x.f4.f1, .int .i64 x.f5.f0, .int .i64 x.f5.f1, .int .i64 x.f6.f0, .int .i64 x.f6.f1, .int .i64 x.f7], .slice (some ⟨g, 0, none⟩) (n + 1) cap, .slice (some ⟨g, 0, none⟩) (n + 1) cap, .int .i64 (n + 1), .int .i64 n, .pointer (some ⟨g, n * 9, none⟩), .pointer (some ⟨B5, 1, none⟩), .int .u8 x.f1, .bool false, .bool false, u39, u40, u41, u42, u43, u44, u45, u46, u47, u48, .bool false, .bool false, u51, u52, u53, u54, u55, u56, u57, .bool false, .bool false, u60, u61, u62, u63, u64, u65, u66, u67, u68, u69, u70, u71, u72, u73, u74, u75, u76, u77, u78, u79, u80, u81, u82, u83, u84, u85, u86, u87, u88, u89, u90, u91, u92, u93, u94, u95, u96, u97, u98, .bool false, .bool false, u101, u102, u103, u104, u105, u106, u107, u108, u109, u110, .bool false, .bool false, u113, u114, u115, u116, u117, u118, u119, u120, .bool true, .bool true, .pointer (some ⟨w.heap.size, 4, none⟩), .slice (some ad) l.length c, .pointer (some ⟨B5, 3, none⟩), .int .i64 x.f3, .int .i64 a, .slice (some ⟨g, 0, none⟩) (n + 1) cap, .pointer (some ⟨w.heap.size, 4, none⟩), .slice (some ad) l.length c, .int .i64 a, .int .i64 pj, .pointer (some ⟨g, pj * 9, none⟩), .pointer (some ⟨g, pj * 9, none⟩), .pointer (some ⟨g, pj * 9, none⟩), .pointer (some ⟨g, pj * 9, none⟩), .pointer (some ⟨g, pj * 9 + 8, none⟩), .int .i64 pp.f4, .pointer (some ⟨B5, 10, none⟩), .int .i64 x.f7, .pointer (some ⟨w.heap.size, 4, none⟩), .slice (some ad) l.length c, .int .i64 ((a : Int)), .pointer (some (ad.add (a * 11))), .pointer (some ⟨(ad.add (a * 11)).block, (ad.add (a * 11)).off + 4, none⟩), .pointer (some ⟨(ad.add (a * 11)).block, (ad.add (a * 11)).off + 5, none⟩), .int .i64 sp.f1, .int .i64 (wrap64 (x.f7 * sp.f1)), .int .i64 (wrap64 (pp.f4 + wrap64 (x.f7 * sp.f1))), u150, u151, undef, undef], defers := [] }
            mixed (by kernel_rfl) rfl (Ahead.of3 134 150 rfl rfl (by kernel_rfl) rfl rfl) ?_ (AllFlow.ops rfl ?_) rfl ?_
          · exact ⟨blkCell HE7.out 0, blkCell HE7.out 1, blkCell HE7.out 2, blkCell HE7.out 3, blkCell HE7.out 4, blkCell HE7.out 5, blkCell HE7.out 6, blkCell HE7.out 7, blkCell HE7.out 8, blkCell HE7.out 9, blkCell HE7.out 10, blkCell HK7.out.bx 0, blkCell HK7.out.bx 1, blkCell HK7.out.bx 2, blkCell HK7.out.bx 3, blkCell HK7.out.bx 4, q0, k5, (Below.refl _ _).drew⟩
          · refine ⟨?_, ?_, ?_, ?_, ?_, ?_, ?_, ?_, ?_, ?_, ?_, ?_, ?_, ?_, ?_, ?_, trivial⟩
            · exact .val 134 _ rfl rfl fun V ⟨y0, y1, y2, y3, y4, y5, y6, y7, y8, y9, y10, y11, y12, y13, y14, y15, x0, x1, hB_⟩ => by go_simp
            · exact .val 135 _ rfl rfl fun V ⟨y0, y1, y2, y3, y4, y5, y6, y7, y8, y9, y10, y11, y12, y13, y14, y15, x0, x1, hB_⟩ => by go_simp
            · exact .val 136 _ rfl rfl fun V ⟨y0, y1, y2, y3, y4, y5, y6, y7, y8, y9, y10, y11, y12, y13, y14, y15, x0, x1, hB_⟩ => by go_simp
            · exact .val 137 _ rfl rfl fun V ⟨y0, y1, y2, y3, y4, y5, y6, y7, y8, y9, y10, y11, y12, y13, y14, y15, x0, x1, hB_⟩ => by go_simp
            · exact .val 138 _ rfl rfl fun V ⟨y0, y1, y2, y3, y4, y5, y6, y7, y8, y9, y10, y11, y12, y13, y14, y15, x0, x1, hB_⟩ => by go_simp
            · exact .val 139 _ rfl rfl fun V ⟨y0, y1, y2, y3, y4, y5, y6, y7, y8, y9, y10, y11, y12, y13, y14, y15, x0, x1, hB_⟩ => by go_simp
            · exact .val 140 _ rfl rfl fun V ⟨y0, y1, y2, y3, y4, y5, y6, y7, y8, y9, y10, y11, y12, y13, y14, y15, x0, x1, hB_⟩ => by go_simp
            · exact .val 141 _ rfl rfl fun V ⟨y0, y1, y2, y3, y4, y5, y6, y7, y8, y9, y10, y11, y12, y13, y14, y15, x0, x1, hB_⟩ => by go_simp
            · exact .val 142 _ rfl rfl fun V ⟨y0, y1, y2, y3, y4, y5, y6, y7, y8, y9, y10, y11, y12, y13, y14, y15, x0, x1, hB_⟩ => by go_simp
            · exact .val 143 _ rfl rfl fun V ⟨y0, y1, y2, y3, y4, y5, y6, y7, y8, y9, y10, y11, y12, y13, y14, y15, x0, x1, hB_⟩ => by go_simp
            · exact .val 144 _ rfl rfl fun V ⟨y0, y1, y2, y3, y4, y5, y6, y7, y8, y9, y10, y11, y12, y13, y14, y15, x0, x1, hB_⟩ => by go_simp <;> exact fun hh => absurd hh (by omega)
            · exact .val 145 _ rfl rfl fun V ⟨y0, y1, y2, y3, y4, y5, y6, y7, y8, y9, y10, y11, y12, y13, y14, y15, x0, x1, hB_⟩ => by go_simp
            · exact .val 146 _ rfl rfl fun V ⟨y0, y1, y2, y3, y4, y5, y6, y7, y8, y9, y10, y11, y12, y13, y14, y15, x0, x1, hB_⟩ => by go_simp
            · exact .val 147 _ rfl rfl fun V ⟨y0, y1, y2, y3, y4, y5, y6, y7, y8, y9, y10, y11, y12, y13, y14, y15, x0, x1, hB_⟩ => by go_simp
            · exact .val 148 _ rfl rfl fun V ⟨y0, y1, y2, y3, y4, y5, y6, y7, y8, y9, y10, y11, y12, y13, y14, y15, x0, x1, hB_⟩ => by go_simp <;> exact wrap_i _
            · exact .val 149 _ rfl rfl fun V ⟨y0, y1, y2, y3, y4, y5, y6, y7, y8, y9, y10, y11, y12, y13, y14, y15, x0, x1, hB_⟩ => by go_simp <;> exact wrap_i _
          rintro V ⟨y0, y1, y2, y3, y4, y5, y6, y7, y8, y9, y10, y11, y12, y13, y14, y15, x0, x1, hB_⟩
          have hQ := HK7.out.grow hB_
          have g0 := hQ.pfrozen HN.out (pj * 9 + 8)
          have hQ' := hQ
          rw [← HN.out] at hQ'
          have hQ2 := hQ'.period (k := pj) (j := 8) (v := .int .i64 (wrap64 (pp.f4 + wrap64 (x.f7 * sp.f1)))) (p := { s.ps.getD pj z52 with f4 := wrap64 (pp.f4 + wrap64 (x.f7 * sp.f1)) }) hpl (by omega) rfl
          rw [HN.out] at hQ2
          have HF := hid (hQ2.same (s' := claimK s x) rfl HS2.out.symm)
          clear hQ hQ' hQ2 hB_ y0 y1 y2 y3 y4 y5 y6 y7 y8 y9 y10 y11 y12 y13 y14 y15 q0 k5
          go_wp2
          go_meet
          case rel => exact ⟨rfl, hid (by rw [HS.out.2, HS.out.1]; exact HF.out)⟩
        have HS := hid (And.intro (show stepK s x = s by unfold stepK; simp [hk1, hk5, hk2, hk4, hk6, hk7]) (show beforeK (stepK s x) = beforeK s by rw [before_step (by have := HN.out; omega), if_neg hk6]))
        have f1 : (x.f1 == 1) = false := by simp [hk1]
        have f5 : (x.f1 == 5) = false := by simp [hk5]
        have f2 : (x.f1 == 2) = false := by simp [hk2]
        have f4 : (x.f1 == 4) = false := by simp [hk4]
        have f6 : (x.f1 == 6) = false := by simp [hk6]
        have f7 : (x.f1 == 7) = false := by simp [hk7]
        clear hk1 hk5 hk2 hk4 hk6 hk7
        go_wp2
        go_meet
        case rel => exact ⟨rfl, hid (by rw [HS.out.2, HS.out.1]; exact HK6.out)⟩
      case rest =>
        obtain ⟨rfl, hcut⟩ := hcut
        rw [← HNX.out] at hcut
        have HK' := hid hcut.out
        clear hcut
        go_wp2
        go_roundw
        case rel =>
          first | exact ⟨k + 1, by omega, by go_num, _, _, rfl, rfl, HK'⟩ | (iterate 144 apply Exists.intro); refine ⟨?_, rfl⟩; exact ⟨k + 1, by omega, by go_num, _, _, rfl, rfl, HK'⟩
        case measure => simp [intOf]; omega
    · obtain rfl : k = l.length := by omega
      have HF := hid (show RetPer (keptOf l) w (.returned (.tuple #[vp, vh])) Wk by
        have h := HX.out
        rw [List.take_length] at h
        exact ⟨_, _, rfl, own_lower (by omega) h.rp, own_lower (by omega) h.rh, h.be⟩)
      clear HX
      go_wp2
      refine bodyPost_ret (v := .tuple #[vp, vh]) (by simp [results, Try.results34, go_sem]) rfl HF.out
end Go.Proofs.Ytbmkbokkmmdjdaa
end
