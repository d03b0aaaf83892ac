-- K3 (wip/pack9.py)
import Derived.Test.YtbmkbokkmmdjdaaV11
section
namespace Go.Proofs.Ytbmkbokkmmdjdaa
open Go.RowKit Go.Proofs.YtbmkbokkmmdjdaaW.PrintWords Go.Proofs.YtbmkbokkmmdjdaaW.PrintLast Go.Proofs.YtbmkbokkmmdjdaaW.PrintMore
open Q Go.Shelf
attribute [local go_sem] Oper.semAt_some wide_depth wide_fn
set_option linter.unusedVariables false
set_option linter.unusedSimpArgs false
theorem row_cells {W : World} {B : Nat} {cs : Array Value} {t : TypeId} (h : W.heap[B]? = some (.cells cs t (0, 0))) : ∀ j u, cs.toList[j]? = some u → W.cell? ((⟨B, 0, none⟩ : Addr).add j) = some u := by
  intro j u hj
  have e : (⟨B, 0, none⟩ : Addr).add j = ⟨B, j, none⟩ := by
    unfold Addr.add
    split
    · rename_i h0; subst h0; rfl
    · simp
  rw [e, blkCell h, ← hj, Array.getElem?_toList]
def RetKept (s : KS) (w : World) (e : Ending) (w' : World) : Prop := ∃ vh vp Bm, e = .returned (.agg #[vh, vp, .map (some Bm)]) ∧ w.heap.size ≤ Bm ∧ w'.ownsRow w.heap.size 60 6 vh s.hs.length (hF s.hs) ∧ w'.ownsRow w.heap.size 52 9 vp s.ps.length (pF s.ps) ∧ MapI w' Bm s.pk ∧ Below w.heap.size w w'
theorem info60' : ∃ i0, Try.prog.info? 60 = some i0 ∧ i0.zero = some (.agg #[.int .i64 0, .int .i64 0, .int .i64 0, .int .i64 0, .int .i64 0, .int .i64 0]) ∧ i0.size = 6 ∧ i0.bytes = 48 := info_parts (by kernel_rfl)
theorem info52' : ∃ i0, Try.prog.info? 52 = some i0 ∧ i0.zero = some (.agg #[.int .i64 0, .int .i64 0, .int .i64 0, .int .i64 0, .int .i64 0, .int .i64 0, .int .i64 0, .int .i64 0, .int .i64 0]) ∧ i0.size = 9 ∧ i0.bytes = 72 := info_parts (by kernel_rfl)
set_option maxRecDepth 100000 in
set_option maxHeartbeats 8000000 in
set_option pp.deepTerms true in
set_option pp.maxSteps 1000000 in
theorem kept_any (ho fi : S23) (A : Option Addr) (c : Nat) (l : List S36) (w : World) (hr : Kd.C k36 w A l.length l) (hl : l.length ≤ 1000) (hok : ∀ k (h : k < l.length), StepOk (keptOf (l.take k)) l[k]) :
    Calls Try.prog 29 #[.agg #[.int .i64 ho.f0, .int .i64 ho.f1, .int .i64 fi.f0, .int .i64 fi.f1, .slice A l.length c]] w (RetKept (keptOf l) w) := by
  have hu := Try.underlying36
  have hu1 := Try.underlying26
  have hu2 := Try.underlying52
  have hu3 := Try.underlying60
  have hu4 := Try.underlying73
  have hu5 := Try.underlying77
  have hu6 := Try.underlying23
  have hmm := @run_makeMap Try.prog
  have HB := Below.refl w.heap.size w
  have HOK := hid hok
  clear hok
  go_enter Try.func29, Try.ntmps29
  go_upto_region 2 with fail
  have hKI0 : KI w ho fi A c l (keptOf (l.take 0)) (.slice none 0 0) (.slice (some ⟨w.heap.size + 1 + 1, 0, none⟩) 1 1) (((((w.alloc (.cells #[.int .i64 ho.f0, .int .i64 ho.f1, .int .i64 fi.f0, .int .i64 fi.f1, .slice A l.length c] 26)).alloc (.cells #[.slice none 0 0, .slice none 0 0, .map none] 73)).alloc (.cells #[.int .i64 0, .int .i64 0, .int .i64 0, .int .i64 0, .int .i64 0, .int .i64 0, .int .i64 0, .int .i64 0, .int .i64 0] 52)).alloc (.map #[] 0)).alloc (.cells #[.slice none 0 0, .slice (some ⟨w.heap.size + 1 + 1, 0, none⟩) 1 1, .map (some (w.heap.size + 1 + 1 + 1))] 73)) := by
    have c0 := World.alloc_heap_new w (.cells #[.int .i64 ho.f0, .int .i64 ho.f1, .int .i64 fi.f0, .int .i64 fi.f1, .slice A l.length c] 26)
    have c1 := World.alloc_heap_new (w.alloc (.cells #[.int .i64 ho.f0, .int .i64 ho.f1, .int .i64 fi.f0, .int .i64 fi.f1, .slice A l.length c] 26)) (.cells #[.slice none 0 0, .slice none 0 0, .map none] 73)
    have c2 := World.alloc_heap_new ((w.alloc (.cells #[.int .i64 ho.f0, .int .i64 ho.f1, .int .i64 fi.f0, .int .i64 fi.f1, .slice A l.length c] 26)).alloc (.cells #[.slice none 0 0, .slice none 0 0, .map none] 73)) (.cells #[.int .i64 0, .int .i64 0, .int .i64 0, .int .i64 0, .int .i64 0, .int .i64 0, .int .i64 0, .int .i64 0, .int .i64 0] 52)
    have c3 := World.alloc_heap_new (((w.alloc (.cells #[.int .i64 ho.f0, .int .i64 ho.f1, .int .i64 fi.f0, .int .i64 fi.f1, .slice A l.length c] 26)).alloc (.cells #[.slice none 0 0, .slice none 0 0, .map none] 73)).alloc (.cells #[.int .i64 0, .int .i64 0, .int .i64 0, .int .i64 0, .int .i64 0, .int .i64 0, .int .i64 0, .int .i64 0, .int .i64 0] 52)) (.map #[] 0)
    have c4 := World.alloc_heap_new ((((w.alloc (.cells #[.int .i64 ho.f0, .int .i64 ho.f1, .int .i64 fi.f0, .int .i64 fi.f1, .slice A l.length c] 26)).alloc (.cells #[.slice none 0 0, .slice none 0 0, .map none] 73)).alloc (.cells #[.int .i64 0, .int .i64 0, .int .i64 0, .int .i64 0, .int .i64 0, .int .i64 0, .int .i64 0, .int .i64 0, .int .i64 0] 52)).alloc (.map #[] 0)) (.cells #[.slice none 0 0, .slice (some ⟨w.heap.size + 1 + 1, 0, none⟩) 1 1, .map (some (w.heap.size + 1 + 1 + 1))] 73)
    simp only [World.size_alloc] at c1 c2 c3 c4
    have d3 := alloc_old (o' := .cells #[.slice none 0 0, .slice (some ⟨w.heap.size + 1 + 1, 0, none⟩) 1 1, .map (some (w.heap.size + 1 + 1 + 1))] 73) c3
    have d2 := alloc_old (o' := .cells #[.slice none 0 0, .slice (some ⟨w.heap.size + 1 + 1, 0, none⟩) 1 1, .map (some (w.heap.size + 1 + 1 + 1))] 73) (alloc_old (o' := .map #[] 0) c2)
    refine ⟨c4, World.ownsRow_nil _ _ _ _, ?_, ⟨_, _, d3, rfl⟩, alloc_old (alloc_old (alloc_old (alloc_old c0))), alloc_old (alloc_old (alloc_old c1)), ((((HB.alloc (Nat.le_refl _) _).alloc (by simp) _).alloc (by simp; omega) _).alloc (by simp; omega) _).alloc (by simp; omega) _⟩
    exact ⟨rfl, .inr ⟨_, 1, _, rfl, Nat.le_refl _, d2, Nat.le_refl _, by decide, rfl, rfl⟩⟩
  have HK0 := hid hKI0
  clear hKI0 HB
  generalize (((((w.alloc (.cells #[.int .i64 ho.f0, .int .i64 ho.f1, .int .i64 fi.f0, .int .i64 fi.f1, .slice A l.length c] 26)).alloc (.cells #[.slice none 0 0, .slice none 0 0, .map none] 73)).alloc (.cells #[.int .i64 0, .int .i64 0, .int .i64 0, .int .i64 0, .int .i64 0, .int .i64 0, .int .i64 0, .int .i64 0, .int .i64 0] 52)).alloc (.map #[] 0)).alloc (.cells #[.slice none 0 0, .slice (some ⟨w.heap.size + 1 + 1, 0, none⟩) 1 1, .map (some (w.heap.size + 1 + 1 + 1))] 73)) = W5 at *
  have y4 := blkCell HK0.out.bx 4
  simp at y4
  go_wp2_with fail
  clear y4
  go_loopw [18] (fun v18 X => ∃ k : Nat, k ≤ l.length ∧ v18 = .int .i64 k ∧ Hid (∃ vh vp, KI w ho fi A c l (keptOf (l.take k)) vh vp X)) (fun v18 _ => l.length - (intOf v18).toNat)
  case atStart => exact ⟨0, by omega, rfl, hid ⟨_, _, HK0.out⟩⟩
  case round =>
    obtain ⟨k, hk, rfl, HX⟩ := hrel
    rename World => Wk
    obtain ⟨vh, vp, hKI⟩ := HX.out
    by_cases hlt : k < l.length
    · have hlen := kept_len l k hk
      obtain ⟨g, cap, rfl, hg1, hg2, hg3⟩ := hKI.pform (by omega)
      obtain ⟨x, hx⟩ : ∃ x, l[k] = x := ⟨_, rfl⟩
      have hso := HOK.out k hlt
      rw [hx] at hso
      have hnx := kept_take hlt
      rw [hx] at hnx
      have hcc := at_T36 (Kd.C_below hr hKI.be) k (by omega) (by omega)
      rw [rdP hlt, hx] at hcc
      simp only [Int.toNat_natCast] at hcc
      obtain ⟨ad, rfl, k0, k1, k2, k3, k4, k5, k6, k7, k8, k9, k10⟩ := hcc
      generalize keptOf (l.take k) = s at *
      have z0 := blkCell hKI.st 0
      have z1 := blkCell hKI.st 1
      have z2 := blkCell hKI.st 2
      simp at z0 z1 z2
      have hq0 : w.heap.size + 1 + 1 + 1 + 1 < Wk.heap.size := cell_lt z0
      obtain ⟨n, hn⟩ : ∃ n, s.ps.length = n + 1 := ⟨s.ps.length - 1, by have := hlen.1; omega⟩
      rw [hn] at z1
      have hwn : wrap64 (n : Int) = n := wrap64_id (by omega) (by have := hlen.2.1; omega)
      have hwm : wrap64 ((n : Int) + 1 - 1) = n := by rw [show (n : Int) + 1 - 1 = n by omega]; exact hwn
      have HKI := hid hKI
      have HN := hid hn
      have HLN := hid hlen
      have HSO := hid hso
      have HNX := hid hnx
      have HG := hid (And.intro hg1 (And.intro hg2 hg3))
      clear hKI hlen hso hnx hg1 hg2 HX hn
      go_upto_block 1 with fail
      go_cut [5, 6, 7, 8, 9, 10, 18] from 20 to 163 (fun v5 v6 v7 v8 v9 v10 v18 wc => v18 = .int .i64 k ∧ Hid (∃ vh vp, KI w ho fi (some ad) c l (stepK s x) vh vp wc))
      case first =>
        go_upto_block 2 with fail
        have hgr := (Below.refl Wk.heap.size Wk).alloc (Nat.le_refl _) (.cells #[.int .i64 x.f0, .int .u8 x.f1, .int .i64 x.f2, .int .i64 x.f3, .int .i64 x.f4.f0, .int .i64 x.f4.f1, .int .i64 x.f5.f0, .int .i64 x.f5.f1, .int .i64 x.f6.f0, .int .i64 x.f6.f1, .int .i64 x.f7] 36)
        have e5 := World.alloc_heap_new Wk (.cells #[.int .i64 x.f0, .int .u8 x.f1, .int .i64 x.f2, .int .i64 x.f3, .int .i64 x.f4.f0, .int .i64 x.f4.f1, .int .i64 x.f5.f0, .int .i64 x.f5.f1, .int .i64 x.f6.f0, .int .i64 x.f6.f1, .int .i64 x.f7] 36)
        have hK6 := HKI.out.grow hgr
        have hg6 : g < Wk.heap.size := HG.out.2.2
        have hs6 : Wk.heap.size < (Wk.alloc (.cells #[.int .i64 x.f0, .int .u8 x.f1, .int .i64 x.f2, .int .i64 x.f3, .int .i64 x.f4.f0, .int .i64 x.f4.f1, .int .i64 x.f5.f0, .int .i64 x.f5.f1, .int .i64 x.f6.f0, .int .i64 x.f6.f1, .int .i64 x.f7] 36)).heap.size := by simp
        have HQ := hid (And.intro hq0 (And.intro hg6 hs6))
        have HE5 := hid e5
        have HK6 := hid hK6
        generalize Wk.alloc (.cells #[.int .i64 x.f0, .int .u8 x.f1, .int .i64 x.f2, .int .i64 x.f3, .int .i64 x.f4.f0, .int .i64 x.f4.f1, .int .i64 x.f5.f0, .int .i64 x.f5.f1, .int .i64 x.f6.f0, .int .i64 x.f6.f1, .int .i64 x.f7] 36) = W6 at *
        generalize Wk.heap.size = B5 at *
        clear hgr e5 hK6 hg6 hs6 z0 z1 z2 hq0 HKI k0 k1 k2 k3 k4 k5 k6 k7 k8 k9 k10 hg3
        by_cases hk1 : x.f1 = 1
        · have HS := hid (show stepK s x = inK s x by unfold stepK; simp [hk1])
          have f1 : (x.f1 == 1) = true := by simpa using hk1
          have HKE := hid hk1
          clear hk1
          have y4 := blkCell HE5.out 4
          have y5 := blkCell HE5.out 5
          have y6 := blkCell HE5.out 6
          have y7 := blkCell HE5.out 7
          have y8 := blkCell HE5.out 8
          have y9 := blkCell HE5.out 9
          simp at y4 y5 y6 y7 y8 y9
          have z0 := blkCell HK6.out.st 0
          have z1 := blkCell HK6.out.st 1
          have z2 := blkCell HK6.out.st 2
          simp at z0 z1 z2
          go_wp2_with (at_builtin; refine Hid.out ?_)
          refine hid ?_
          clear y4 y5 y6 y7 y8 y9 z0 z1 z2
          have hgr := (Below.refl W6.heap.size W6).alloc (Nat.le_refl _) (.cells #[.int .i64 x.f4.f0, .int .i64 x.f4.f1, .int .i64 x.f5.f0, .int .i64 x.f5.f1, .int .i64 x.f6.f0, .int .i64 x.f6.f1] 60)
          have hnew := World.alloc_heap_new W6 (.cells #[.int .i64 x.f4.f0, .int .i64 x.f4.f1, .int .i64 x.f5.f0, .int .i64 x.f5.f1, .int .i64 x.f6.f0, .int .i64 x.f6.f1] 60)
          have hK7 := HK6.out.grow hgr
          have hs7 : w.heap.size + 1 + 1 ≤ (W6.alloc (.cells #[.int .i64 x.f4.f0, .int .i64 x.f4.f1, .int .i64 x.f5.f0, .int .i64 x.f5.f1, .int .i64 x.f6.f0, .int .i64 x.f6.f1] 60)).heap.size := by have := HQ.out.1; have := hK7.be.size; have := cell_lt (blkCell hK7.st 2); omega
          generalize W6.alloc (.cells #[.int .i64 x.f4.f0, .int .i64 x.f4.f1, .int .i64 x.f5.f0, .int .i64 x.f5.f1, .int .i64 x.f6.f0, .int .i64 x.f6.f1] 60) = W7 at *
          generalize W6.heap.size = B6 at *
          obtain ⟨i0, hi, hz0, hz1, hz2⟩ := info60'
          refine wpList_append_own W7 rfl _ _ 39 rfl (w.heap.size + 1 + 1) 60 i0 _ 6 48 Try.underlying39 hi hz0 hz1 hz2 rfl (by decide) vh s.hs.length (hF s.hs) rfl hK7.rh ⟨B6, 0, none⟩ 1 1 (hC (⟨x.f4, x.f5, x.f6⟩ : S60)) rfl rfl (row_cells hnew) (by simp [hC, Value.oneCell']) (by have := HLN.out.2.2; unfold maxLen; omega) (by have := HLN.out.2.2; omega) hs7 ?_
          intro v' W8 hown' hgrow _
          have hK9 := hK7.heaps (⟨x.f4, x.f5, x.f6⟩ : S60) hown' hgrow
          obtain ⟨g', cap', rfl⟩ := ownsRow_succ hown'
          have hst := grown_blk hgrow (row_ne_blk hK7.rh hK7.st (by decide)) hK7.st
          have z0 := blkCell hst 0
          have zf := blkFrozen hst 0
          simp at z0
          have HF := hid hK9
          clear hgr hnew hK7 hs7 hi hz0 hz1 hz2 hown' hgrow hK9 hst
          go_wp2
          go_meet
          case rel => exact ⟨rfl, hid ⟨_, _, by rw [HS.out]; exact HF.out⟩⟩
        by_cases hk5 : x.f1 = 5
        · have HS := hid (show stepK s x = backK s x by unfold stepK; simp [hk1, hk5])
          have f1 : (x.f1 == 1) = false := by simpa using hk1
          have f5 : (x.f1 == 5) = true := by simpa using hk5
          have HKE := hid hk5
          clear hk1 hk5
          have y4 := blkCell HE5.out 4
          have y5 := blkCell HE5.out 5
          simp at y4 y5
          go_upto_region 12 with fail
          clear y4 y5
          have hgr := (Below.refl W6.heap.size W6).alloc (Nat.le_refl _) (.cells #[.int .i64 x.f4.f0, .int .i64 x.f4.f1, .int .i64 0, .int .i64 1000, .int .i64 0, .int .i64 0] 60)
          have e8 := World.alloc_heap_new W6 (.cells #[.int .i64 x.f4.f0, .int .i64 x.f4.f1, .int .i64 0, .int .i64 1000, .int .i64 0, .int .i64 0] 60)
          have hK7 := HK6.out.grow hgr
          have hs8 : W6.heap.size < (W6.alloc (.cells #[.int .i64 x.f4.f0, .int .i64 x.f4.f1, .int .i64 0, .int .i64 1000, .int .i64 0, .int .i64 0] 60)).heap.size := by simp
          have hq8 := HQ.out.2.2
          generalize W6.alloc (.cells #[.int .i64 x.f4.f0, .int .i64 x.f4.f1, .int .i64 0, .int .i64 1000, .int .i64 0, .int .i64 0] 60) = Wx at *
          generalize hB8 : W6.heap.size = B8 at *
          have HB8 := hid hB8
          have HGR := hid hgr
          have HKX := hid hK7
          have HE8 := hid e8
          have HQX := hid (And.intro hq8 hs8)
          clear hgr e8 hK7 hs8 hq8 hB8
          rcases Nat.eq_zero_or_pos n with rfl | hn0
          · have hbf : beforeK s = ⟨0, 1000⟩ := by unfold beforeK; rw [if_neg (by rw [HN.out]; omega)]
            have z0 := blkCell HKX.out.st 0
            have z1 := blkCell HKX.out.st 1
            have z2 := blkCell HKX.out.st 2
            simp at z0 z1 z2
            have v0 := blkCell HE8.out 0
            have v1 := blkCell HE8.out 1
            have v2 := blkCell HE8.out 2
            have v3 := blkCell HE8.out 3
            have v4 := blkCell HE8.out 4
            have v5 := blkCell HE8.out 5
            simp at v0 v1 v2 v3 v4 v5
            have hw0 : wrap64 (0 : Int) = 0 := wrap64_id (by omega) (by omega)
            have HS2 := hid (show stepK s x = { s with hs := s.hs ++ [(⟨x.f4, ⟨0, 1000⟩, z23⟩ : S60)] } by rw [HS.out]; unfold backK; rw [hbf])
            clear hbf
            go_wp2_with (at_builtin; refine Hid.out ?_)
            refine hid ?_
            clear z0 z1 z2 v0 v1 v2 v3 v4 v5 hw0
            have hgr := (Below.refl Wx.heap.size Wx).alloc (Nat.le_refl _) (.cells #[.int .i64 x.f4.f0, .int .i64 x.f4.f1, .int .i64 0, .int .i64 1000, .int .i64 0, .int .i64 0] 60)
            have hnew := World.alloc_heap_new Wx (.cells #[.int .i64 x.f4.f0, .int .i64 x.f4.f1, .int .i64 0, .int .i64 1000, .int .i64 0, .int .i64 0] 60)
            have hK7 := HKX.out.grow hgr
            have hs7 : w.heap.size + 1 + 1 ≤ (Wx.alloc (.cells #[.int .i64 x.f4.f0, .int .i64 x.f4.f1, .int .i64 0, .int .i64 1000, .int .i64 0, .int .i64 0] 60)).heap.size := by have := HQ.out.1; have := hK7.be.size; have := cell_lt (blkCell hK7.st 2); omega
            generalize Wx.alloc (.cells #[.int .i64 x.f4.f0, .int .i64 x.f4.f1, .int .i64 0, .int .i64 1000, .int .i64 0, .int .i64 0] 60) = W7 at *
            generalize Wx.heap.size = B6 at *
            obtain ⟨i0, hi, hz0, hz1, hz2⟩ := info60'
            refine wpList_append_own W7 rfl _ _ 39 rfl (w.heap.size + 1 + 1) 60 i0 _ 6 48 Try.underlying39 hi hz0 hz1 hz2 rfl (by decide) vh s.hs.length (hF s.hs) rfl hK7.rh ⟨B6, 0, none⟩ 1 1 (hC (⟨x.f4, ⟨0, 1000⟩, z23⟩ : S60)) rfl rfl (row_cells hnew) (by simp [hC, Value.oneCell']) (by have := HLN.out.2.2; unfold maxLen; omega) (by have := HLN.out.2.2; omega) hs7 ?_
            intro v' W8 hown' hgrow _
            have hK9 := hK7.heaps (⟨x.f4, ⟨0, 1000⟩, z23⟩ : S60) hown' hgrow
            obtain ⟨g', cap', rfl⟩ := ownsRow_succ hown'
            have hst := grown_blk hgrow (row_ne_blk hK7.rh hK7.st (by decide)) hK7.st
            have z0 := blkCell hst 0
            have zf := blkFrozen hst 0
            simp at z0
            have HF := hid hK9
            clear hgr hnew hK7 hs7 hi hz0 hz1 hz2 hown' hgrow hK9 hst
            go_wp2
            go_meet
            case rel => exact ⟨rfl, hid ⟨_, _, by rw [HS2.out]; exact HF.out⟩⟩
          · obtain ⟨m, rfl⟩ : ∃ m, n = m + 1 := ⟨n - 1, by omega⟩
            have hwa : wrap64 (m : Int) = m := wrap64_id (by omega) (by have := HLN.out.2.1; have := HN.out; omega)
            have hwb : wrap64 ((m : Int) + 1) = (m : Int) + 1 := wrap64_id (by omega) (by have := HLN.out.2.1; have := HN.out; omega)
            have hwc : wrap64 ((m : Int) + 1 - 1) = (m : Int) := by rw [show (m : Int) + 1 - 1 = m by omega]; exact hwa
            have hbf : beforeK s = shareS (s.ps.getD m z52) := by unfold beforeK; rw [if_pos (by rw [HN.out]; omega), HN.out]; rfl
            have q0 : Wx.cell? ⟨g, m * 9, none⟩ = some (.int .i64 (s.ps.getD m z52).f0.f0) := by have e := HKX.out.rp.cellAt (m * 9 + 0) (by have := HN.out; omega); rw [pF_at (by have := HN.out; omega) (by omega)] at e; exact e
            have q1 : Wx.cell? ⟨g, m * 9 + 1, none⟩ = some (.int .i64 (s.ps.getD m z52).f0.f1) := by have e := HKX.out.rp.cellAt (m * 9 + 1) (by have := HN.out; omega); rw [pF_at (by have := HN.out; omega) (by omega)] at e; exact e
            have q2 : Wx.cell? ⟨g, m * 9 + 2, none⟩ = some (.int .i64 (s.ps.getD m z52).f1.f0) := by have e := HKX.out.rp.cellAt (m * 9 + 2) (by have := HN.out; omega); rw [pF_at (by have := HN.out; omega) (by omega)] at e; exact e
            have q3 : Wx.cell? ⟨g, m * 9 + 3, none⟩ = some (.int .i64 (s.ps.getD m z52).f1.f1) := by have e := HKX.out.rp.cellAt (m * 9 + 3) (by have := HN.out; omega); rw [pF_at (by have := HN.out; omega) (by omega)] at e; exact e
            have q4 : Wx.cell? ⟨g, m * 9 + 4, none⟩ = some (.int .i64 (s.ps.getD m z52).f2.f0) := by have e := HKX.out.rp.cellAt (m * 9 + 4) (by have := HN.out; omega); rw [pF_at (by have := HN.out; omega) (by omega)] at e; exact e
            have q5 : Wx.cell? ⟨g, m * 9 + 5, none⟩ = some (.int .i64 (s.ps.getD m z52).f2.f1) := by have e := HKX.out.rp.cellAt (m * 9 + 5) (by have := HN.out; omega); rw [pF_at (by have := HN.out; omega) (by omega)] at e; exact e
            have q6 : Wx.cell? ⟨g, m * 9 + 6, none⟩ = some (.int .i64 (s.ps.getD m z52).f3.f0) := by have e := HKX.out.rp.cellAt (m * 9 + 6) (by have := HN.out; omega); rw [pF_at (by have := HN.out; omega) (by omega)] at e; exact e
            have q7 : Wx.cell? ⟨g, m * 9 + 7, none⟩ = some (.int .i64 (s.ps.getD m z52).f3.f1) := by have e := HKX.out.rp.cellAt (m * 9 + 7) (by have := HN.out; omega); rw [pF_at (by have := HN.out; omega) (by omega)] at e; exact e
            have q8 : Wx.cell? ⟨g, m * 9 + 8, none⟩ = some (.int .i64 (s.ps.getD m z52).f4) := by have e := HKX.out.rp.cellAt (m * 9 + 8) (by have := HN.out; omega); rw [pF_at (by have := HN.out; omega) (by omega)] at e; exact e
            have z0 := blkCell HKX.out.st 0
            have z1 := blkCell HKX.out.st 1
            have z2 := blkCell HKX.out.st 2
            simp at z0 z1 z2
            rw [HN.out] at z1
            have hdp : decide (0 < (m : Int) + 1) = true := decide_eq_true (by omega)
            have hds : decide (0 < m + 1) = true := decide_eq_true (by omega)
            go_wp2_with fail
            refine (share_any (s.ps.getD m z52) _).mono ?_
            rintro e Wy ⟨rfl, hb⟩
            rw [← hbf]
            clear z0 z1 z2 q0 q1 q2 q3 q4 q5 q6 q7 q8 hwa hwb hwc hdp hds
            obtain ⟨sh, hsh⟩ : ∃ sh, beforeK s = sh := ⟨_, rfl⟩
            have HS2 := hid (show stepK s x = { s with hs := s.hs ++ [(⟨x.f4, sh, z23⟩ : S60)] } by rw [HS.out]; unfold backK; rw [hsh])
            rw [hsh]
            clear hbf hsh
            have hKy := HKX.out.grow hb
            have e8 := heap_grow HE8.out hb
            have v2 := blkCell e8 2
            have v3 := blkCell e8 3
            have f2 := blkFrozen e8 2
            have f3 := blkFrozen e8 3
            simp at v2 v3
            go_upto_region 14 with fail
            have e9 : ((Wy.setCell ⟨B8, 2, none⟩ (.int .i64 sh.f0)).setCell ⟨B8, 3, none⟩ (.int .i64 sh.f1)).heap[B8]? = some (.cells #[.int .i64 x.f4.f0, .int .i64 x.f4.f1, .int .i64 sh.f0, .int .i64 sh.f1, .int .i64 0, .int .i64 0] 60 (0, 0)) := set_at (set_at e8 2 (.int .i64 sh.f0)) 3 (.int .i64 sh.f1)
            have hbz : Below B8 W6 ((Wy.setCell ⟨B8, 2, none⟩ (.int .i64 sh.f0)).setCell ⟨B8, 3, none⟩ (.int .i64 sh.f1)) := ((HGR.out.trans (hb.mono (Nat.le_of_lt HQX.out.2))).setCell (p := ⟨B8, 2, none⟩) (Nat.le_refl _) _).setCell (p := ⟨B8, 3, none⟩) (Nat.le_refl _) _
            have hKz := HK6.out.grow (by rw [HB8.out]; exact hbz)
            have hqz : B8 < ((Wy.setCell ⟨B8, 2, none⟩ (.int .i64 sh.f0)).setCell ⟨B8, 3, none⟩ (.int .i64 sh.f1)).heap.size := cell_lt (blkCell e9 2)
            generalize ((Wy.setCell ⟨B8, 2, none⟩ (.int .i64 sh.f0)).setCell ⟨B8, 3, none⟩ (.int .i64 sh.f1)) = Wz at *
            clear v2 v3 f2 f3 e8 hKy hb hbz
            have z0 := blkCell hKz.st 0
            have z1 := blkCell hKz.st 1
            have z2 := blkCell hKz.st 2
            simp at z0 z1 z2
            have v0 := blkCell e9 0
            have v1 := blkCell e9 1
            have v2 := blkCell e9 2
            have v3 := blkCell e9 3
            have v4 := blkCell e9 4
            have v5 := blkCell e9 5
            simp at v0 v1 v2 v3 v4 v5
            have HKZ := hid hKz
            clear hKz e9
            go_wp2_with (at_builtin; refine Hid.out ?_)
            refine hid ?_
            clear z0 z1 z2 v0 v1 v2 v3 v4 v5
            have hgr := (Below.refl Wz.heap.size Wz).alloc (Nat.le_refl _) (.cells #[.int .i64 x.f4.f0, .int .i64 x.f4.f1, .int .i64 sh.f0, .int .i64 sh.f1, .int .i64 0, .int .i64 0] 60)
            have hnew := World.alloc_heap_new Wz (.cells #[.int .i64 x.f4.f0, .int .i64 x.f4.f1, .int .i64 sh.f0, .int .i64 sh.f1, .int .i64 0, .int .i64 0] 60)
            have hK7 := HKZ.out.grow hgr
            have hs7 : w.heap.size + 1 + 1 ≤ (Wz.alloc (.cells #[.int .i64 x.f4.f0, .int .i64 x.f4.f1, .int .i64 sh.f0, .int .i64 sh.f1, .int .i64 0, .int .i64 0] 60)).heap.size := by have := HQ.out.1; have := hK7.be.size; have := cell_lt (blkCell hK7.st 2); omega
            generalize Wz.alloc (.cells #[.int .i64 x.f4.f0, .int .i64 x.f4.f1, .int .i64 sh.f0, .int .i64 sh.f1, .int .i64 0, .int .i64 0] 60) = W7 at *
            generalize Wz.heap.size = B6 at *
            obtain ⟨i0, hi, hz0, hz1, hz2⟩ := info60'
            refine wpList_append_own W7 rfl _ _ 39 rfl (w.heap.size + 1 + 1) 60 i0 _ 6 48 Try.underlying39 hi hz0 hz1 hz2 rfl (by decide) vh s.hs.length (hF s.hs) rfl hK7.rh ⟨B6, 0, none⟩ 1 1 (hC (⟨x.f4, sh, z23⟩ : S60)) rfl rfl (row_cells hnew) (by simp [hC, Value.oneCell']) (by have := HLN.out.2.2; unfold maxLen; omega) (by have := HLN.out.2.2; omega) hs7 ?_
            intro v' W8 hown' hgrow _
            have hK9 := hK7.heaps (⟨x.f4, sh, z23⟩ : S60) hown' hgrow
            obtain ⟨g', cap', rfl⟩ := ownsRow_succ hown'
            have hst := grown_blk hgrow (row_ne_blk hK7.rh hK7.st (by decide)) hK7.st
            have z0 := blkCell hst 0
            have zf := blkFrozen hst 0
            simp at z0
            have HF := hid hK9
            clear hgr hnew hK7 hs7 hi hz0 hz1 hz2 hown' hgrow hK9 hst
            go_wp2
            go_meet
            case rel => exact ⟨rfl, hid ⟨_, _, by rw [HS2.out]; exact HF.out⟩⟩
        by_cases hk2 : x.f1 = 2
        · have HS := hid (show stepK s x = chargeK s x by unfold stepK; simp [hk1, hk5, hk2])
          have f1 : (x.f1 == 1) = false := by simpa using hk1
          have f5 : (x.f1 == 5) = false := by simpa using hk5
          have f2 : (x.f1 == 2) = true := by simpa using hk2
          have HKE := hid hk2
          clear hk1 hk5 hk2
          have y2 := blkCell HE5.out 2
          simp at y2
          have z0 := blkCell HK6.out.st 0
          have z1 := blkCell HK6.out.st 1
          have z2 := blkCell HK6.out.st 2
          simp at z0 z1 z2
          have hc := HSO.out.charge HKE.out
          obtain ⟨hc1, hc2⟩ := hc
          obtain ⟨nh, hnh⟩ : ∃ nh, s.hs.length = nh + 1 := ⟨s.hs.length - 1, by omega⟩
          have hrh := HK6.out.rh
          rw [hnh] at hrh
          obtain ⟨gh, ch, rfl⟩ := ownsRow_succ hrh
          have hgl := (hrh.lt gh rfl)
          have hd0 : decide (0 ≤ x.f2) = true := decide_eq_true hc1
          have hd1 : decide (x.f2 < ((nh : Int) + 1)) = true := decide_eq_true (by omega)
          have hd2 : decide (x.f2 < ((nh + 1 : Nat) : Int)) = true := decide_eq_true (by omega)
          obtain ⟨j, hj⟩ : ∃ j : Nat, x.f2 = j := ⟨x.f2.toNat, by omega⟩
          rw [hj] at hd0 hd1 hd2 y2
          have hd3 : decide (j < nh + 1) = true := decide_eq_true (by omega)
          have hd4 : decide (j ≤ nh) = true := decide_eq_true (by omega)
          have hd5 : j < nh + 1 := by omega
          have hjl : j < s.hs.length := by omega
          obtain ⟨h, hh⟩ : ∃ h, s.hs.getD j z60 = h := ⟨_, rfl⟩
          have r0 : W6.cell? ⟨gh, j * 6, none⟩ = some (.int .i64 h.f0.f0) := by have e := hrh.cellAt (j * 6 + 0) (by omega); rw [hF_at hjl (by omega), hh] at e; exact e
          have r1 : W6.cell? ⟨gh, j * 6 + 1, none⟩ = some (.int .i64 h.f0.f1) := by have e := hrh.cellAt (j * 6 + 1) (by omega); rw [hF_at hjl (by omega), hh] at e; exact e
          have r2 : W6.cell? ⟨gh, j * 6 + 2, none⟩ = some (.int .i64 h.f1.f0) := by have e := hrh.cellAt (j * 6 + 2) (by omega); rw [hF_at hjl (by omega), hh] at e; exact e
          have r3 : W6.cell? ⟨gh, j * 6 + 3, none⟩ = some (.int .i64 h.f1.f1) := by have e := hrh.cellAt (j * 6 + 3) (by omega); rw [hF_at hjl (by omega), hh] at e; exact e
          have r4 : W6.cell? ⟨gh, j * 6 + 4, none⟩ = some (.int .i64 h.f2.f0) := by have e := hrh.cellAt (j * 6 + 4) (by omega); rw [hF_at hjl (by omega), hh] at e; exact e
          have r5 : W6.cell? ⟨gh, j * 6 + 5, none⟩ = some (.int .i64 h.f2.f1) := by have e := hrh.cellAt (j * 6 + 5) (by omega); rw [hF_at hjl (by omega), hh] at e; exact e
          have hqa : w.heap.size + 1 + 1 + 1 + 1 < W6.heap.size := by have := HQ.out; omega
          have HJ := hid (And.intro hj (And.intro hjl (And.intro hnh hh)))
          clear hc1 hc2 hj hjl hnh hh hrh hgl
          go_upto_region 17 with fail
          have hgr := (Below.refl W6.heap.size W6).alloc (Nat.le_refl _) (.cells #[.int .i64 h.f0.f0, .int .i64 h.f0.f1, .int .i64 h.f1.f0, .int .i64 h.f1.f1, .int .i64 h.f2.f0, .int .i64 h.f2.f1] 60)
          have e9 := World.alloc_heap_new W6 (.cells #[.int .i64 h.f0.f0, .int .i64 h.f0.f1, .int .i64 h.f1.f0, .int .i64 h.f1.f1, .int .i64 h.f2.f0, .int .i64 h.f2.f1] 60)
          have hKa0 := HK6.out.grow hgr
          have e5 := heap_grow HE5.out hgr
          have hq9 : g ≠ B5 ∧ g ≠ W6.heap.size := by have := HQ.out; omega
          generalize W6.alloc (.cells #[.int .i64 h.f0.f0, .int .i64 h.f0.f1, .int .i64 h.f1.f0, .int .i64 h.f1.f1, .int .i64 h.f2.f0, .int .i64 h.f2.f1] 60) = Wa0 at *
          generalize W6.heap.size = B9 at *
          clear hwn hwm hgr y2 z0 z1 z2 r0 r1 r2 r3 r4 r5 hqa hd0 hd1 hd2 hd3 hd4 hd5
          have hnl : n < s.ps.length := by have := HN.out; omega
          obtain ⟨pp, hpp⟩ : ∃ pp, s.ps.getD n z52 = pp := ⟨_, rfl⟩
          have q0 : Wa0.cell? ⟨g, n * 9, none⟩ = some (.int .i64 pp.f0.f0) := by have e := hKa0.pcell (k := n) (j := 0) rfl hnl (by omega); rw [hpp] at e; exact e
          have q1 : Wa0.cell? ⟨g, n * 9 + 1, none⟩ = some (.int .i64 pp.f0.f1) := by have e := hKa0.pcell (k := n) (j := 1) rfl hnl (by omega); rw [hpp] at e; exact e
          refine wp_flow [[], [], [1], [2, 1], [3, 2, 1], [], [5], [], [6, 5, 7], [4, 3, 2, 1, 8, 6, 5, 7], [0, 1, 2, 3, 4, 5, 6, 7, 8, 9], [10, 0, 1, 2, 3, 4, 5, 6, 7, 8, 9], [11, 10, 0, 1, 2, 3, 4, 5, 6, 7, 8, 9]] 12
            (fun V => V.cell? ⟨B5, 0, none⟩ = some (.int .i64 x.f0) ∧ V.cell? ⟨B5, 1, none⟩ = some (.int .u8 x.f1) ∧ V.cell? ⟨B5, 2, none⟩ = some (.int .i64 x.f2) ∧ V.cell? ⟨B5, 3, none⟩ = some (.int .i64 x.f3) ∧ V.cell? ⟨B5, 4, none⟩ = some (.int .i64 x.f4.f0) ∧ V.cell? ⟨B5, 5, none⟩ = some (.int .i64 x.f4.f1) ∧ V.cell? ⟨B9, 0, none⟩ = some (.int .i64 h.f0.f0) ∧ V.cell? ⟨B9, 1, none⟩ = some (.int .i64 h.f0.f1) ∧ V.cell? ⟨B9, 2, none⟩ = some (.int .i64 h.f1.f0) ∧ V.cell? ⟨B9, 3, none⟩ = some (.int .i64 h.f1.f1) ∧ V.cell? ⟨B9, 4, none⟩ = some (.int .i64 h.f2.f0) ∧ V.cell? ⟨B9, 5, none⟩ = some (.int .i64 h.f2.f1) ∧ V.cell? ⟨g, n * 9, none⟩ = some (.int .i64 pp.f0.f0) ∧ V.cell? ⟨g, n * 9 + 1, none⟩ = some (.int .i64 pp.f0.f1) ∧ Below Wa0.heap.size Wa0 V)
            { tmps := #[.agg #[.int .i64 ho.f0, .int .i64 ho.f1, .int .i64 fi.f0, .int .i64 fi.f1, .slice (some ad) l.length c], .pointer (some ⟨w.heap.size, 0, none⟩), .pointer (some ⟨w.heap.size + 1, 0, none⟩), .pointer (some ⟨w.heap.size + 1 + 1 + 1 + 1, 0, none⟩), undef, .pointer (some ⟨B5, 0, none⟩), .int .i64 (wrap64 n), .pointer (some ⟨g, n * 9, none⟩), u8, .pointer (some ⟨B9, 0, none⟩), u10, .agg #[.int .i64 0, .int .i64 0, .int .i64 0, .int .i64 0, .int .i64 0, .int .i64 0, .int .i64 0, .int .i64 0, .int .i64 0], .slice (some ⟨w.heap.size + 1 + 1, 0, none⟩) 1 1, .map (some (w.heap.size + 1 + 1 + 1)), .agg #[.slice none 0 0, .slice (some ⟨w.heap.size + 1 + 1, 0, none⟩) 1 1, .map (some (w.heap.size + 1 + 1 + 1))], .pointer (some ⟨w.heap.size, 4, none⟩), .slice (some ad) l.length c, .int .i64 l.length, .int .i64 k, .bool true, .pointer (some (ad.add (k * 11))), .agg #[.int .i64 x.f0, .int .u8 x.f1, .int .i64 x.f2, .int .i64 x.f3, .int .i64 x.f4.f0, .int .i64 x.f4.f1, .int .i64 x.f5.f0, .int .i64 x.f5.f1, .int .i64 x.f6.f0, .int .i64 x.f6.f1, .int .i64 x.f7], .pointer (some ⟨w.heap.size + 1 + 1 + 1 + 1, 1, none⟩), .slice (some ⟨g, 0, none⟩) (n + 1) cap, .int .i64 (n + 1), .int .i64 (wrap64 n), .pointer (some ⟨w.heap.size + 1 + 1 + 1 + 1, 1, none⟩), .slice (some ⟨g, 0, none⟩) (n + 1) cap, .int .i64 (wrap64 n), .pointer (some ⟨g, n * 9, none⟩), .pointer (some ⟨B5, 1, none⟩), .int .u8 x.f1, .bool false, .bool false, u34, u35, u36, u37, u38, u39, u40, u41, u42, u43, u44, u45, .bool false, .bool false, u48, u49, u50, u51, u52, u53, u54, u55, u56, u57, u58, u59, u60, u61, u62, u63, u64, u65, u66, u67, .bool true, .bool true, .pointer (some ⟨w.heap.size + 1 + 1 + 1 + 1, 0, none⟩), .slice (some ⟨gh, 0, none⟩) (nh + 1) ch, .pointer (some ⟨B5, 2, none⟩), .int .i64 j, .pointer (some ⟨gh, j * 6, none⟩), .agg #[.int .i64 h.f0.f0, .int .i64 h.f0.f1, .int .i64 h.f1.f0, .int .i64 h.f1.f1, .int .i64 h.f2.f0, .int .i64 h.f2.f1], .pointer (some ⟨g, n * 9, none⟩), .pointer (some ⟨g, n * 9, none⟩), .pointer (some ⟨g, n * 9, none⟩), .pointer (some ⟨g, n * 9, none⟩), .agg #[.int .i64 pp.f0.f0, .int .i64 pp.f0.f1], .pointer (some ⟨B5, 4, none⟩), .agg #[.int .i64 x.f4.f0, .int .i64 x.f4.f1], .agg #[.int .i64 h.f0.f0, .int .i64 h.f0.f1, .int .i64 h.f1.f0, .int .i64 h.f1.f1, .int .i64 h.f2.f0, .int .i64 h.f2.f1], .agg #[.int .i64 ((glassS x.f4 h).f0), .int .i64 ((glassS x.f4 h).f1)], .agg #[.int .i64 ((plusS pp.f0 (glassS x.f4 h)).f0), .int .i64 ((plusS pp.f0 (glassS x.f4 h)).f1)], .pointer (some ⟨g, n * 9, none⟩), .pointer (some ⟨g, n * 9, none⟩), u88, u89, u90, u91, u92, u93, u94, u95, u96, u97, u98, u99, u100, u101, u102, u103, u104, u105, u106, u107, u108, u109, u110, u111, u112, u113, u114, u115, u116, u117, u118, u119, u120, u121, u122, u123, u124, u125, u126, u127, u128, u129, u130, u131, u132, u133, u134, u135, u136, u137, u138, u139, u140, u141, u142, u143, u144, u145, u146, u147, u148, u149, u150, u151, u152, u153, u154, u155, u156, u157, u158, u159, u160, u161, u162, u163, u164, u165, undef], defers := [] }
            mixed (by kernel_rfl) rfl (Ahead.of3 76 88 rfl rfl (by kernel_rfl) rfl rfl) ?_ (AllFlow.ops rfl ?_) rfl ?_
          · exact ⟨blkCell e5 0, blkCell e5 1, blkCell e5 2, blkCell e5 3, blkCell e5 4, blkCell e5 5, blkCell e9 0, blkCell e9 1, blkCell e9 2, blkCell e9 3, blkCell e9 4, blkCell e9 5, q0, q1, (Below.refl _ _).drew⟩
          · refine ⟨?_, ?_, ?_, ?_, ?_, ?_, ?_, ?_, ?_, ?_, ?_, ?_, trivial⟩
            · exact .val 76 _ rfl rfl fun V ⟨y0, y1, y2, y3, y4, y5, y6, y7, y8, y9, y10, y11, x0, x1, hB_⟩ => by go_simp
            · exact .val 77 _ rfl rfl fun V ⟨y0, y1, y2, y3, y4, y5, y6, y7, y8, y9, y10, y11, x0, x1, hB_⟩ => by go_simp
            · exact .val 78 _ rfl rfl fun V ⟨y0, y1, y2, y3, y4, y5, y6, y7, y8, y9, y10, y11, x0, x1, hB_⟩ => by go_simp
            · exact .val 79 _ rfl rfl fun V ⟨y0, y1, y2, y3, y4, y5, y6, y7, y8, y9, y10, y11, x0, x1, hB_⟩ => by go_simp
            · exact .val 80 _ rfl rfl fun V ⟨y0, y1, y2, y3, y4, y5, y6, y7, y8, y9, y10, y11, x0, x1, hB_⟩ => by go_simp
            · exact .val 81 _ rfl rfl fun V ⟨y0, y1, y2, y3, y4, y5, y6, y7, y8, y9, y10, y11, x0, x1, hB_⟩ => by go_simp
            · exact .val 82 _ rfl rfl fun V ⟨y0, y1, y2, y3, y4, y5, y6, y7, y8, y9, y10, y11, x0, x1, hB_⟩ => by go_simp
            · exact .val 83 _ rfl rfl fun V ⟨y0, y1, y2, y3, y4, y5, y6, y7, y8, y9, y10, y11, x0, x1, hB_⟩ => by go_simp
            · refine .call 84 (.agg #[.int .i64 ((glassS x.f4 h).f0), .int .i64 ((glassS x.f4 h).f1)]) 59 #[.agg #[.int .i64 x.f4.f0, .int .i64 x.f4.f1], .agg #[.int .i64 h.f0.f0, .int .i64 h.f0.f1, .int .i64 h.f1.f0, .int .i64 h.f1.f1, .int .i64 h.f2.f0, .int .i64 h.f2.f1]] rfl rfl (fun V ⟨y0, y1, y2, y3, y4, y5, y6, y7, y8, y9, y10, y11, x0, x1, hB_⟩ => by go_simp) fun V ⟨y0, y1, y2, y3, y4, y5, y6, y7, y8, y9, y10, y11, x0, x1, hB_⟩ => ?_
              refine (glass_any x.f4 h _).mono ?_
              rintro e w' ⟨rfl, hb⟩
              exact ⟨rfl, cell_grow y0 hb, cell_grow y1 hb, cell_grow y2 hb, cell_grow y3 hb, cell_grow y4 hb, cell_grow y5 hb, cell_grow y6 hb, cell_grow y7 hb, cell_grow y8 hb, cell_grow y9 hb, cell_grow y10 hb, cell_grow y11 hb, cell_grow x0 hb, cell_grow x1 hb, hB_.trans (hb.mono hB_.size)⟩
            · refine .call 85 (.agg #[.int .i64 ((plusS pp.f0 (glassS x.f4 h)).f0), .int .i64 ((plusS pp.f0 (glassS x.f4 h)).f1)]) 58 #[.agg #[.int .i64 pp.f0.f0, .int .i64 pp.f0.f1], .agg #[.int .i64 ((glassS x.f4 h).f0), .int .i64 ((glassS x.f4 h).f1)]] rfl rfl (fun V ⟨y0, y1, y2, y3, y4, y5, y6, y7, y8, y9, y10, y11, x0, x1, hB_⟩ => by go_simp) fun V ⟨y0, y1, y2, y3, y4, y5, y6, y7, y8, y9, y10, y11, x0, x1, hB_⟩ => ?_
              refine (plus_any pp.f0 (glassS x.f4 h) _).mono ?_
              rintro e w' ⟨rfl, hb⟩
              exact ⟨rfl, cell_grow y0 hb, cell_grow y1 hb, cell_grow y2 hb, cell_grow y3 hb, cell_grow y4 hb, cell_grow y5 hb, cell_grow y6 hb, cell_grow y7 hb, cell_grow y8 hb, cell_grow y9 hb, cell_grow y10 hb, cell_grow y11 hb, cell_grow x0 hb, cell_grow x1 hb, hB_.trans (hb.mono hB_.size)⟩
            · exact .val 86 _ rfl rfl fun V ⟨y0, y1, y2, y3, y4, y5, y6, y7, y8, y9, y10, y11, x0, x1, hB_⟩ => by go_simp
            · exact .val 87 _ rfl rfl fun V ⟨y0, y1, y2, y3, y4, y5, y6, y7, y8, y9, y10, y11, x0, x1, hB_⟩ => by go_simp
          rintro V0 ⟨y0, y1, y2, y3, y4, y5, y6, y7, y8, y9, y10, y11, x0, x1, hB_⟩
          have hKv := hKa0.grow hB_
          have f0 := hKv.pfrozen rfl (n * 9)
          have f1 := hKv.pfrozen rfl (n * 9 + 1)
          have hKa1 := hKv.span0 rfl (k := n) (by omega) (plusS pp.f0 (glassS x.f4 h))
          rw [hpp] at hKa1
          have e5 := heap_grow e5 hB_
          have e9 := heap_grow e9 hB_
          have e5 := set_other (p := ⟨g, n * 9 + 1, none⟩) (v := .int .i64 (plusS pp.f0 (glassS x.f4 h)).f1) (by simp; omega) (set_other (p := ⟨g, n * 9, none⟩) (v := .int .i64 (plusS pp.f0 (glassS x.f4 h)).f0) (by simp; omega) e5)
          have e9 := set_other (p := ⟨g, n * 9 + 1, none⟩) (v := .int .i64 (plusS pp.f0 (glassS x.f4 h)).f1) (by simp; omega) (set_other (p := ⟨g, n * 9, none⟩) (v := .int .i64 (plusS pp.f0 (glassS x.f4 h)).f0) (by simp; omega) e9)
          have HKA := hid hKa1
          clear y0 y1 y2 y3 y4 y5 y6 y7 y8 y9 y10 y11 q0 q1 hKa0 hKa1 hKv hB_
          go_upto_region 18 with fail
          have hKa1 := HKA.out
          clear x0 x1 f0 f1 HKA
          generalize ((V0.setCell ⟨g, n * 9, none⟩ (.int .i64 (plusS pp.f0 (glassS x.f4 h)).f0)).setCell ⟨g, n * 9 + 1, none⟩ (.int .i64 (plusS pp.f0 (glassS x.f4 h)).f1)) = Wa1 at *
          have q0 : Wa1.cell? ⟨g, n * 9 + 2, none⟩ = some (.int .i64 pp.f1.f0) := by have e := hKa1.pcell (k := n) (j := 2) List.length_set hnl (by omega); rw [getD_set_same hnl] at e; exact e
          have q1 : Wa1.cell? ⟨g, n * 9 + 3, none⟩ = some (.int .i64 pp.f1.f1) := by have e := hKa1.pcell (k := n) (j := 3) List.length_set hnl (by omega); rw [getD_set_same hnl] at e; exact e
          refine wp_flow [[], [], [1], [2, 1], [3, 2, 1], [], [5], [], [7], [6, 5, 8, 7], [4, 3, 2, 1, 9, 6, 5, 8, 7], [0, 1, 2, 3, 4, 5, 6, 7, 8, 9, 10], [11, 0, 1, 2, 3, 4, 5, 6, 7, 8, 9, 10], [12, 11, 0, 1, 2, 3, 4, 5, 6, 7, 8, 9, 10]] 13
            (fun V => V.cell? ⟨B5, 0, none⟩ = some (.int .i64 x.f0) ∧ V.cell? ⟨B5, 1, none⟩ = some (.int .u8 x.f1) ∧ V.cell? ⟨B5, 2, none⟩ = some (.int .i64 x.f2) ∧ V.cell? ⟨B5, 3, none⟩ = some (.int .i64 x.f3) ∧ V.cell? ⟨B5, 4, none⟩ = some (.int .i64 x.f4.f0) ∧ V.cell? ⟨B5, 5, none⟩ = some (.int .i64 x.f4.f1) ∧ V.cell? ⟨B9, 0, none⟩ = some (.int .i64 h.f0.f0) ∧ V.cell? ⟨B9, 1, none⟩ = some (.int .i64 h.f0.f1) ∧ V.cell? ⟨B9, 2, none⟩ = some (.int .i64 h.f1.f0) ∧ V.cell? ⟨B9, 3, none⟩ = some (.int .i64 h.f1.f1) ∧ V.cell? ⟨B9, 4, none⟩ = some (.int .i64 h.f2.f0) ∧ V.cell? ⟨B9, 5, none⟩ = some (.int .i64 h.f2.f1) ∧ V.cell? ⟨g, n * 9 + 2, none⟩ = some (.int .i64 pp.f1.f0) ∧ V.cell? ⟨g, n * 9 + 3, none⟩ = some (.int .i64 pp.f1.f1) ∧ Below Wa1.heap.size Wa1 V)
            { tmps := #[.agg #[.int .i64 ho.f0, .int .i64 ho.f1, .int .i64 fi.f0, .int .i64 fi.f1, .slice (some ad) l.length c], .pointer (some ⟨w.heap.size, 0, none⟩), .pointer (some ⟨w.heap.size + 1, 0, none⟩), .pointer (some ⟨w.heap.size + 1 + 1 + 1 + 1, 0, none⟩), undef, .pointer (some ⟨B5, 0, none⟩), .int .i64 (wrap64 n), .pointer (some ⟨g, n * 9, none⟩), u8, .pointer (some ⟨B9, 0, none⟩), u10, .agg #[.int .i64 0, .int .i64 0, .int .i64 0, .int .i64 0, .int .i64 0, .int .i64 0, .int .i64 0, .int .i64 0, .int .i64 0], .slice (some ⟨w.heap.size + 1 + 1, 0, none⟩) 1 1, .map (some (w.heap.size + 1 + 1 + 1)), .agg #[.slice none 0 0, .slice (some ⟨w.heap.size + 1 + 1, 0, none⟩) 1 1, .map (some (w.heap.size + 1 + 1 + 1))], .pointer (some ⟨w.heap.size, 4, none⟩), .slice (some ad) l.length c, .int .i64 l.length, .int .i64 k, .bool true, .pointer (some (ad.add (k * 11))), .agg #[.int .i64 x.f0, .int .u8 x.f1, .int .i64 x.f2, .int .i64 x.f3, .int .i64 x.f4.f0, .int .i64 x.f4.f1, .int .i64 x.f5.f0, .int .i64 x.f5.f1, .int .i64 x.f6.f0, .int .i64 x.f6.f1, .int .i64 x.f7], .pointer (some ⟨w.heap.size + 1 + 1 + 1 + 1, 1, none⟩), .slice (some ⟨g, 0, none⟩) (n + 1) cap, .int .i64 (n + 1), .int .i64 (wrap64 n), .pointer (some ⟨w.heap.size + 1 + 1 + 1 + 1, 1, none⟩), .slice (some ⟨g, 0, none⟩) (n + 1) cap, .int .i64 (wrap64 n), .pointer (some ⟨g, n * 9, none⟩), .pointer (some ⟨B5, 1, none⟩), .int .u8 x.f1, .bool false, .bool false, u34, u35, u36, u37, u38, u39, u40, u41, u42, u43, u44, u45, .bool false, .bool false, u48, u49, u50, u51, u52, u53, u54, u55, u56, u57, u58, u59, u60, u61, u62, u63, u64, u65, u66, u67, .bool true, .bool true, .pointer (some ⟨w.heap.size + 1 + 1 + 1 + 1, 0, none⟩), .slice (some ⟨gh, 0, none⟩) (nh + 1) ch, .pointer (some ⟨B5, 2, none⟩), .int .i64 j, .pointer (some ⟨gh, j * 6, none⟩), .agg #[.int .i64 h.f0.f0, .int .i64 h.f0.f1, .int .i64 h.f1.f0, .int .i64 h.f1.f1, .int .i64 h.f2.f0, .int .i64 h.f2.f1], .pointer (some ⟨g, n * 9, none⟩), .pointer (some ⟨g, n * 9, none⟩), .pointer (some ⟨g, n * 9, none⟩), .pointer (some ⟨g, n * 9, none⟩), .agg #[.int .i64 pp.f0.f0, .int .i64 pp.f0.f1], .pointer (some ⟨B5, 4, none⟩), .agg #[.int .i64 x.f4.f0, .int .i64 x.f4.f1], .agg #[.int .i64 h.f0.f0, .int .i64 h.f0.f1, .int .i64 h.f1.f0, .int .i64 h.f1.f1, .int .i64 h.f2.f0, .int .i64 h.f2.f1], .agg #[.int .i64 ((glassS x.f4 h).f0), .int .i64 ((glassS x.f4 h).f1)], .agg #[.int .i64 ((plusS pp.f0 (glassS x.f4 h)).f0), .int .i64 ((plusS pp.f0 (glassS x.f4 h)).f1)], .pointer (some ⟨g, n * 9, none⟩), .pointer (some ⟨g, n * 9, none⟩), .pointer (some ⟨g, n * 9, none⟩), .pointer (some ⟨g, n * 9, none⟩), .pointer (some ⟨g, n * 9, none⟩), .pointer (some ⟨g, n * 9 + 2, none⟩), .agg #[.int .i64 pp.f1.f0, .int .i64 pp.f1.f1], .pointer (some ⟨B5, 4, none⟩), .agg #[.int .i64 x.f4.f0, .int .i64 x.f4.f1], .pointer (some ⟨B9, 2, none⟩), .agg #[.int .i64 h.f1.f0, .int .i64 h.f1.f1], .agg #[.int .i64 ((timesS x.f4 h.f1).f0), .int .i64 ((timesS x.f4 h.f1).f1)], .agg #[.int .i64 ((plusS pp.f1 (timesS x.f4 h.f1)).f0), .int .i64 ((plusS pp.f1 (timesS x.f4 h.f1)).f1)], .pointer (some ⟨g, n * 9, none⟩), .pointer (some ⟨g, n * 9 + 2, none⟩), u101, u102, u103, u104, u105, u106, u107, u108, u109, u110, u111, u112, u113, u114, u115, u116, u117, u118, u119, u120, u121, u122, u123, u124, u125, u126, u127, u128, u129, u130, u131, u132, u133, u134, u135, u136, u137, u138, u139, u140, u141, u142, u143, u144, u145, u146, u147, u148, u149, u150, u151, u152, u153, u154, u155, u156, u157, u158, u159, u160, u161, u162, u163, u164, u165, undef], defers := [] }
            mixed (by kernel_rfl) rfl (Ahead.of3 88 101 rfl rfl (by kernel_rfl) rfl rfl) ?_ (AllFlow.ops rfl ?_) rfl ?_
          · exact ⟨blkCell e5 0, blkCell e5 1, blkCell e5 2, blkCell e5 3, blkCell e5 4, blkCell e5 5, blkCell e9 0, blkCell e9 1, blkCell e9 2, blkCell e9 3, blkCell e9 4, blkCell e9 5, q0, q1, (Below.refl _ _).drew⟩
          · refine ⟨?_, ?_, ?_, ?_, ?_, ?_, ?_, ?_, ?_, ?_, ?_, ?_, ?_, trivial⟩
            · exact .val 88 _ rfl rfl fun V ⟨y0, y1, y2, y3, y4, y5, y6, y7, y8, y9, y10, y11, x0, x1, hB_⟩ => by go_simp
            · exact .val 89 _ rfl rfl fun V ⟨y0, y1, y2, y3, y4, y5, y6, y7, y8, y9, y10, y11, x0, x1, hB_⟩ => by go_simp
            · exact .val 90 _ rfl rfl fun V ⟨y0, y1, y2, y3, y4, y5, y6, y7, y8, y9, y10, y11, x0, x1, hB_⟩ => by go_simp
            · exact .val 91 _ rfl rfl fun V ⟨y0, y1, y2, y3, y4, y5, y6, y7, y8, y9, y10, y11, x0, x1, hB_⟩ => by go_simp
            · exact .val 92 _ rfl rfl fun V ⟨y0, y1, y2, y3, y4, y5, y6, y7, y8, y9, y10, y11, x0, x1, hB_⟩ => by go_simp
            · exact .val 93 _ rfl rfl fun V ⟨y0, y1, y2, y3, y4, y5, y6, y7, y8, y9, y10, y11, x0, x1, hB_⟩ => by go_simp
            · exact .val 94 _ rfl rfl fun V ⟨y0, y1, y2, y3, y4, y5, y6, y7, y8, y9, y10, y11, x0, x1, hB_⟩ => by go_simp
            · exact .val 95 _ rfl rfl fun V ⟨y0, y1, y2, y3, y4, y5, y6, y7, y8, y9, y10, y11, x0, x1, hB_⟩ => by go_simp
            · exact .val 96 _ rfl rfl fun V ⟨y0, y1, y2, y3, y4, y5, y6, y7, y8, y9, y10, y11, x0, x1, hB_⟩ => by go_simp
            · refine .call 97 (.agg #[.int .i64 ((timesS x.f4 h.f1).f0), .int .i64 ((timesS x.f4 h.f1).f1)]) 60 #[.agg #[.int .i64 x.f4.f0, .int .i64 x.f4.f1], .agg #[.int .i64 h.f1.f0, .int .i64 h.f1.f1]] rfl rfl (fun V ⟨y0, y1, y2, y3, y4, y5, y6, y7, y8, y9, y10, y11, x0, x1, hB_⟩ => by go_simp) fun V ⟨y0, y1, y2, y3, y4, y5, y6, y7, y8, y9, y10, y11, x0, x1, hB_⟩ => ?_
              refine (times_any x.f4 h.f1 _).mono ?_
              rintro e w' ⟨rfl, hb⟩
              exact ⟨rfl, cell_grow y0 hb, cell_grow y1 hb, cell_grow y2 hb, cell_grow y3 hb, cell_grow y4 hb, cell_grow y5 hb, cell_grow y6 hb, cell_grow y7 hb, cell_grow y8 hb, cell_grow y9 hb, cell_grow y10 hb, cell_grow y11 hb, cell_grow x0 hb, cell_grow x1 hb, hB_.trans (hb.mono hB_.size)⟩
            · refine .call 98 (.agg #[.int .i64 ((plusS pp.f1 (timesS x.f4 h.f1)).f0), .int .i64 ((plusS pp.f1 (timesS x.f4 h.f1)).f1)]) 58 #[.agg #[.int .i64 pp.f1.f0, .int .i64 pp.f1.f1], .agg #[.int .i64 ((timesS x.f4 h.f1).f0), .int .i64 ((timesS x.f4 h.f1).f1)]] rfl rfl (fun V ⟨y0, y1, y2, y3, y4, y5, y6, y7, y8, y9, y10, y11, x0, x1, hB_⟩ => by go_simp) fun V ⟨y0, y1, y2, y3, y4, y5, y6, y7, y8, y9, y10, y11, x0, x1, hB_⟩ => ?_
              refine (plus_any pp.f1 (timesS x.f4 h.f1) _).mono ?_
              rintro e w' ⟨rfl, hb⟩
              exact ⟨rfl, cell_grow y0 hb, cell_grow y1 hb, cell_grow y2 hb, cell_grow y3 hb, cell_grow y4 hb, cell_grow y5 hb, cell_grow y6 hb, cell_grow y7 hb, cell_grow y8 hb, cell_grow y9 hb, cell_grow y10 hb, cell_grow y11 hb, cell_grow x0 hb, cell_grow x1 hb, hB_.trans (hb.mono hB_.size)⟩
            · exact .val 99 _ rfl rfl fun V ⟨y0, y1, y2, y3, y4, y5, y6, y7, y8, y9, y10, y11, x0, x1, hB_⟩ => by go_simp
            · exact .val 100 _ rfl rfl fun V ⟨y0, y1, y2, y3, y4, y5, y6, y7, y8, y9, y10, y11, x0, x1, hB_⟩ => by go_simp
          rintro V1 ⟨y0, y1, y2, y3, y4, y5, y6, y7, y8, y9, y10, y11, x0, x1, hB_⟩
          have hKv := hKa1.grow hB_
          have f0 := hKv.pfrozen List.length_set (n * 9 + 2)
          have f1 := hKv.pfrozen List.length_set (n * 9 + 3)
          have hKa2 := hKv.span1 List.length_set (k := n) (by rw [List.length_set]; omega) (plusS pp.f1 (timesS x.f4 h.f1))
          rw [getD_set_same hnl] at hKa2
          have e5 := heap_grow e5 hB_
          have e9 := heap_grow e9 hB_
          have e5 := set_other (p := ⟨g, n * 9 + 3, none⟩) (v := .int .i64 (plusS pp.f1 (timesS x.f4 h.f1)).f1) (by simp; omega) (set_other (p := ⟨g, n * 9 + 2, none⟩) (v := .int .i64 (plusS pp.f1 (timesS x.f4 h.f1)).f0) (by simp; omega) e5)
          have e9 := set_other (p := ⟨g, n * 9 + 3, none⟩) (v := .int .i64 (plusS pp.f1 (timesS x.f4 h.f1)).f1) (by simp; omega) (set_other (p := ⟨g, n * 9 + 2, none⟩) (v := .int .i64 (plusS pp.f1 (timesS x.f4 h.f1)).f0) (by simp; omega) e9)
          have HKA := hid hKa2
          clear y0 y1 y2 y3 y4 y5 y6 y7 y8 y9 y10 y11 q0 q1 hKa1 hKa2 hKv hB_
          go_upto_region 19 with fail
          have hKa2 := HKA.out
          clear x0 x1 f0 f1 HKA
          generalize ((V1.setCell ⟨g, n * 9 + 2, none⟩ (.int .i64 (plusS pp.f1 (timesS x.f4 h.f1)).f0)).setCell ⟨g, n * 9 + 3, none⟩ (.int .i64 (plusS pp.f1 (timesS x.f4 h.f1)).f1)) = Wa2 at *
          simp only [List.set_set] at hKa2
          have q0 : Wa2.cell? ⟨g, n * 9 + 4, none⟩ = some (.int .i64 pp.f2.f0) := by have e := hKa2.pcell (k := n) (j := 4) List.length_set hnl (by omega); rw [getD_set_same hnl] at e; exact e
          have q1 : Wa2.cell? ⟨g, n * 9 + 5, none⟩ = some (.int .i64 pp.f2.f1) := by have e := hKa2.pcell (k := n) (j := 5) List.length_set hnl (by omega); rw [getD_set_same hnl] at e; exact e
          refine wp_flow [[], [], [1], [2, 1], [3, 2, 1], [], [5], [], [7], [6, 5, 8, 7], [4, 3, 2, 1, 9, 6, 5, 8, 7], [0, 1, 2, 3, 4, 5, 6, 7, 8, 9, 10], [11, 0, 1, 2, 3, 4, 5, 6, 7, 8, 9, 10], [12, 11, 0, 1, 2, 3, 4, 5, 6, 7, 8, 9, 10]] 13
            (fun V => V.cell? ⟨B5, 0, none⟩ = some (.int .i64 x.f0) ∧ V.cell? ⟨B5, 1, none⟩ = some (.int .u8 x.f1) ∧ V.cell? ⟨B5, 2, none⟩ = some (.int .i64 x.f2) ∧ V.cell? ⟨B5, 3, none⟩ = some (.int .i64 x.f3) ∧ V.cell? ⟨B5, 4, none⟩ = some (.int .i64 x.f4.f0) ∧ V.cell? ⟨B5, 5, none⟩ = some (.int .i64 x.f4.f1) ∧ V.cell? ⟨B9, 0, none⟩ = some (.int .i64 h.f0.f0) ∧ V.cell? ⟨B9, 1, none⟩ = some (.int .i64 h.f0.f1) ∧ V.cell? ⟨B9, 2, none⟩ = some (.int .i64 h.f1.f0) ∧ V.cell? ⟨B9, 3, none⟩ = some (.int .i64 h.f1.f1) ∧ V.cell? ⟨B9, 4, none⟩ = some (.int .i64 h.f2.f0) ∧ V.cell? ⟨B9, 5, none⟩ = some (.int .i64 h.f2.f1) ∧ V.cell? ⟨g, n * 9 + 4, none⟩ = some (.int .i64 pp.f2.f0) ∧ V.cell? ⟨g, n * 9 + 5, none⟩ = some (.int .i64 pp.f2.f1) ∧ Below Wa2.heap.size Wa2 V)
            { tmps := #[.agg #[.int .i64 ho.f0, .int .i64 ho.f1, .int .i64 fi.f0, .int .i64 fi.f1, .slice (some ad) l.length c], .pointer (some ⟨w.heap.size, 0, none⟩), .pointer (some ⟨w.heap.size + 1, 0, none⟩), .pointer (some ⟨w.heap.size + 1 + 1 + 1 + 1, 0, none⟩), undef, .pointer (some ⟨B5, 0, none⟩), .int .i64 (wrap64 n), .pointer (some ⟨g, n * 9, none⟩), u8, .pointer (some ⟨B9, 0, none⟩), u10, .agg #[.int .i64 0, .int .i64 0, .int .i64 0, .int .i64 0, .int .i64 0, .int .i64 0, .int .i64 0, .int .i64 0, .int .i64 0], .slice (some ⟨w.heap.size + 1 + 1, 0, none⟩) 1 1, .map (some (w.heap.size + 1 + 1 + 1)), .agg #[.slice none 0 0, .slice (some ⟨w.heap.size + 1 + 1, 0, none⟩) 1 1, .map (some (w.heap.size + 1 + 1 + 1))], .pointer (some ⟨w.heap.size, 4, none⟩), .slice (some ad) l.length c, .int .i64 l.length, .int .i64 k, .bool true, .pointer (some (ad.add (k * 11))), .agg #[.int .i64 x.f0, .int .u8 x.f1, .int .i64 x.f2, .int .i64 x.f3, .int .i64 x.f4.f0, .int .i64 x.f4.f1, .int .i64 x.f5.f0, .int .i64 x.f5.f1, .int .i64 x.f6.f0, .int .i64 x.f6.f1, .int .i64 x.f7], .pointer (some ⟨w.heap.size + 1 + 1 + 1 + 1, 1, none⟩), .slice (some ⟨g, 0, none⟩) (n + 1) cap, .int .i64 (n + 1), .int .i64 (wrap64 n), .pointer (some ⟨w.heap.size + 1 + 1 + 1 + 1, 1, none⟩), .slice (some ⟨g, 0, none⟩) (n + 1) cap, .int .i64 (wrap64 n), .pointer (some ⟨g, n * 9, none⟩), .pointer (some ⟨B5, 1, none⟩), .int .u8 x.f1, .bool false, .bool false, u34, u35, u36, u37, u38, u39, u40, u41, u42, u43, u44, u45, .bool false, .bool false, u48, u49, u50, u51, u52, u53, u54, u55, u56, u57, u58, u59, u60, u61, u62, u63, u64, u65, u66, u67, .bool true, .bool true, .pointer (some ⟨w.heap.size + 1 + 1 + 1 + 1, 0, none⟩), .slice (some ⟨gh, 0, none⟩) (nh + 1) ch, .pointer (some ⟨B5, 2, none⟩), .int .i64 j, .pointer (some ⟨gh, j * 6, none⟩), .agg #[.int .i64 h.f0.f0, .int .i64 h.f0.f1, .int .i64 h.f1.f0, .int .i64 h.f1.f1, .int .i64 h.f2.f0, .int .i64 h.f2.f1], .pointer (some ⟨g, n * 9, none⟩), .pointer (some ⟨g, n * 9, none⟩), .pointer (some ⟨g, n * 9, none⟩), .pointer (some ⟨g, n * 9, none⟩), .agg #[.int .i64 pp.f0.f0, .int .i64 pp.f0.f1], .pointer (some ⟨B5, 4, none⟩), .agg #[.int .i64 x.f4.f0, .int .i64 x.f4.f1], .agg #[.int .i64 h.f0.f0, .int .i64 h.f0.f1, .int .i64 h.f1.f0, .int .i64 h.f1.f1, .int .i64 h.f2.f0, .int .i64 h.f2.f1], .agg #[.int .i64 ((glassS x.f4 h).f0), .int .i64 ((glassS x.f4 h).f1)], .agg #[.int .i64 ((plusS pp.f0 (glassS x.f4 h)).f0), .int .i64 ((plusS pp.f0 (glassS x.f4 h)).f1)], .pointer (some ⟨g, n * 9, none⟩), .pointer (some ⟨g, n * 9, none⟩), .pointer (some ⟨g, n * 9, none⟩), .pointer (some ⟨g, n * 9, none⟩), .pointer (some ⟨g, n * 9, none⟩), .pointer (some ⟨g, n * 9 + 2, none⟩), .agg #[.int .i64 pp.f1.f0, .int .i64 pp.f1.f1], .pointer (some ⟨B5, 4, none⟩), .agg #[.int .i64 x.f4.f0, .int .i64 x.f4.f1], .pointer (some ⟨B9, 2, none⟩), .agg #[.int .i64 h.f1.f0, .int .i64 h.f1.f1], .agg #[.int .i64 ((timesS x.f4 h.f1).f0), .int .i64 ((timesS x.f4 h.f1).f1)], .agg #[.int .i64 ((plusS pp.f1 (timesS x.f4 h.f1)).f0), .int .i64 ((plusS pp.f1 (timesS x.f4 h.f1)).f1)], .pointer (some ⟨g, n * 9, none⟩), .pointer (some ⟨g, n * 9 + 2, none⟩), .pointer (some ⟨g, n * 9, none⟩), .pointer (some ⟨g, n * 9, none⟩), .pointer (some ⟨g, n * 9, none⟩), .pointer (some ⟨g, n * 9 + 4, none⟩), .agg #[.int .i64 pp.f2.f0, .int .i64 pp.f2.f1], .pointer (some ⟨B5, 4, none⟩), .agg #[.int .i64 x.f4.f0, .int .i64 x.f4.f1], .pointer (some ⟨B9, 4, none⟩), .agg #[.int .i64 h.f2.f0, .int .i64 h.f2.f1], .agg #[.int .i64 ((timesS x.f4 h.f2).f0), .int .i64 ((timesS x.f4 h.f2).f1)], .agg #[.int .i64 ((plusS pp.f2 (timesS x.f4 h.f2)).f0), .int .i64 ((plusS pp.f2 (timesS x.f4 h.f2)).f1)], .pointer (some ⟨g, n * 9, none⟩), .pointer (some ⟨g, n * 9 + 4, none⟩), u114, u115, u116, u117, u118, u119, u120, u121, u122, u123, u124, u125, u126, u127, u128, u129, u130, u131, u132, u133, u134, u135, u136, u137, u138, u139, u140, u141, u142, u143, u144, u145, u146, u147, u148, u149, u150, u151, u152, u153, u154, u155, u156, u157, u158, u159, u160, u161, u162, u163, u164, u165, undef], defers := [] }
            mixed (by kernel_rfl) rfl (Ahead.of3 101 114 rfl rfl (by kernel_rfl) rfl rfl) ?_ (AllFlow.ops rfl ?_) rfl ?_
          · exact ⟨blkCell e5 0, blkCell e5 1, blkCell e5 2, blkCell e5 3, blkCell e5 4, blkCell e5 5, blkCell e9 0, blkCell e9 1, blkCell e9 2, blkCell e9 3, blkCell e9 4, blkCell e9 5, q0, q1, (Below.refl _ _).drew⟩
          · refine ⟨?_, ?_, ?_, ?_, ?_, ?_, ?_, ?_, ?_, ?_, ?_, ?_, ?_, trivial⟩
            · exact .val 101 _ rfl rfl fun V ⟨y0, y1, y2, y3, y4, y5, y6, y7, y8, y9, y10, y11, x0, x1, hB_⟩ => by go_simp
            · exact .val 102 _ rfl rfl fun V ⟨y0, y1, y2, y3, y4, y5, y6, y7, y8, y9, y10, y11, x0, x1, hB_⟩ => by go_simp
            · exact .val 103 _ rfl rfl fun V ⟨y0, y1, y2, y3, y4, y5, y6, y7, y8, y9, y10, y11, x0, x1, hB_⟩ => by go_simp
            · exact .val 104 _ rfl rfl fun V ⟨y0, y1, y2, y3, y4, y5, y6, y7, y8, y9, y10, y11, x0, x1, hB_⟩ => by go_simp
            · exact .val 105 _ rfl rfl fun V ⟨y0, y1, y2, y3, y4, y5, y6, y7, y8, y9, y10, y11, x0, x1, hB_⟩ => by go_simp
            · exact .val 106 _ rfl rfl fun V ⟨y0, y1, y2, y3, y4, y5, y6, y7, y8, y9, y10, y11, x0, x1, hB_⟩ => by go_simp
            · exact .val 107 _ rfl rfl fun V ⟨y0, y1, y2, y3, y4, y5, y6, y7, y8, y9, y10, y11, x0, x1, hB_⟩ => by go_simp
            · exact .val 108 _ rfl rfl fun V ⟨y0, y1, y2, y3, y4, y5, y6, y7, y8, y9, y10, y11, x0, x1, hB_⟩ => by go_simp
            · exact .val 109 _ rfl rfl fun V ⟨y0, y1, y2, y3, y4, y5, y6, y7, y8, y9, y10, y11, x0, x1, hB_⟩ => by go_simp
            · refine .call 110 (.agg #[.int .i64 ((timesS x.f4 h.f2).f0), .int .i64 ((timesS x.f4 h.f2).f1)]) 60 #[.agg #[.int .i64 x.f4.f0, .int .i64 x.f4.f1], .agg #[.int .i64 h.f2.f0, .int .i64 h.f2.f1]] rfl rfl (fun V ⟨y0, y1, y2, y3, y4, y5, y6, y7, y8, y9, y10, y11, x0, x1, hB_⟩ => by go_simp) fun V ⟨y0, y1, y2, y3, y4, y5, y6, y7, y8, y9, y10, y11, x0, x1, hB_⟩ => ?_
              refine (times_any x.f4 h.f2 _).mono ?_
              rintro e w' ⟨rfl, hb⟩
              exact ⟨rfl, cell_grow y0 hb, cell_grow y1 hb, cell_grow y2 hb, cell_grow y3 hb, cell_grow y4 hb, cell_grow y5 hb, cell_grow y6 hb, cell_grow y7 hb, cell_grow y8 hb, cell_grow y9 hb, cell_grow y10 hb, cell_grow y11 hb, cell_grow x0 hb, cell_grow x1 hb, hB_.trans (hb.mono hB_.size)⟩
            · refine .call 111 (.agg #[.int .i64 ((plusS pp.f2 (timesS x.f4 h.f2)).f0), .int .i64 ((plusS pp.f2 (timesS x.f4 h.f2)).f1)]) 58 #[.agg #[.int .i64 pp.f2.f0, .int .i64 pp.f2.f1], .agg #[.int .i64 ((timesS x.f4 h.f2).f0), .int .i64 ((timesS x.f4 h.f2).f1)]] rfl rfl (fun V ⟨y0, y1, y2, y3, y4, y5, y6, y7, y8, y9, y10, y11, x0, x1, hB_⟩ => by go_simp) fun V ⟨y0, y1, y2, y3, y4, y5, y6, y7, y8, y9, y10, y11, x0, x1, hB_⟩ => ?_
              refine (plus_any pp.f2 (timesS x.f4 h.f2) _).mono ?_
              rintro e w' ⟨rfl, hb⟩
              exact ⟨rfl, cell_grow y0 hb, cell_grow y1 hb, cell_grow y2 hb, cell_grow y3 hb, cell_grow y4 hb, cell_grow y5 hb, cell_grow y6 hb, cell_grow y7 hb, cell_grow y8 hb, cell_grow y9 hb, cell_grow y10 hb, cell_grow y11 hb, cell_grow x0 hb, cell_grow x1 hb, hB_.trans (hb.mono hB_.size)⟩
            · exact .val 112 _ rfl rfl fun V ⟨y0, y1, y2, y3, y4, y5, y6, y7, y8, y9, y10, y11, x0, x1, hB_⟩ => by go_simp
            · exact .val 113 _ rfl rfl fun V ⟨y0, y1, y2, y3, y4, y5, y6, y7, y8, y9, y10, y11, x0, x1, hB_⟩ => by go_simp
          rintro V2 ⟨y0, y1, y2, y3, y4, y5, y6, y7, y8, y9, y10, y11, x0, x1, hB_⟩
          have hKv := hKa2.grow hB_
          have f0 := hKv.pfrozen List.length_set (n * 9 + 4)
          have f1 := hKv.pfrozen List.length_set (n * 9 + 5)
          have hKa3 := hKv.span2 List.length_set (k := n) (by rw [List.length_set]; omega) (plusS pp.f2 (timesS x.f4 h.f2))
          rw [getD_set_same hnl] at hKa3
          have e5 := heap_grow e5 hB_
          have e9 := heap_grow e9 hB_
          have e5 := set_other (p := ⟨g, n * 9 + 5, none⟩) (v := .int .i64 (plusS pp.f2 (timesS x.f4 h.f2)).f1) (by simp; omega) (set_other (p := ⟨g, n * 9 + 4, none⟩) (v := .int .i64 (plusS pp.f2 (timesS x.f4 h.f2)).f0) (by simp; omega) e5)
          have e9 := set_other (p := ⟨g, n * 9 + 5, none⟩) (v := .int .i64 (plusS pp.f2 (timesS x.f4 h.f2)).f1) (by simp; omega) (set_other (p := ⟨g, n * 9 + 4, none⟩) (v := .int .i64 (plusS pp.f2 (timesS x.f4 h.f2)).f0) (by simp; omega) e9)
          have HKA := hid hKa3
          clear y0 y1 y2 y3 y4 y5 y6 y7 y8 y9 y10 y11 q0 q1 hKa2 hKa3 hKv hB_
          go_wp2
          have hKa3 := HKA.out
          clear x0 x1 f0 f1 HKA
          generalize ((V2.setCell ⟨g, n * 9 + 4, none⟩ (.int .i64 (plusS pp.f2 (timesS x.f4 h.f2)).f0)).setCell ⟨g, n * 9 + 5, none⟩ (.int .i64 (plusS pp.f2 (timesS x.f4 h.f2)).f1)) = Wa3 at *
          simp only [List.set_set] at hKa3

          have HF := hid hKa3
          have HSS := hid (show stepK s x = { s with ps := s.ps.set n (chargeP pp x.f4 h) } by rw [HS.out]; unfold chargeK KS.last KS.heap; rw [HN.out, HJ.out.1]; simp only [Nat.add_sub_cancel, Int.toNat_natCast]; rw [hpp, HJ.out.2.2.2])
          clear hKa3 e5 e9
          go_meet
          case rel => exact ⟨rfl, hid ⟨_, _, by rw [HSS.out]; exact HF.out⟩⟩
        by_cases hk4 : x.f1 = 4
        · have HS := hid (show stepK s x = packK s x by unfold stepK; simp [hk1, hk5, hk2, hk4])
          have f1 : (x.f1 == 1) = false := by simpa using hk1
          have f5 : (x.f1 == 5) = false := by simpa using hk5
          have f2 : (x.f1 == 2) = false := by simpa using hk2
          have f4 : (x.f1 == 4) = true := by simpa using hk4
          have HKE := hid hk4
          clear hk1 hk5 hk2 hk4
          have HWN := hid hwn
          go_upto_region 21 with fail
          clear hwn hwm
          have hnl : n < s.ps.length := by have := HN.out; omega
          obtain ⟨pp, hpp⟩ : ∃ pp, s.ps.getD n z52 = pp := ⟨_, rfl⟩
          have q0 : W6.cell? ⟨g, n * 9 + 6, none⟩ = some (.int .i64 pp.f3.f0) := by have e := HK6.out.pcell (k := n) (j := 6) rfl hnl (by omega); rw [hpp] at e; exact e
          have q1 : W6.cell? ⟨g, n * 9 + 7, none⟩ = some (.int .i64 pp.f3.f1) := by have e := HK6.out.pcell (k := n) (j := 7) rfl hnl (by omega); rw [hpp] at e; exact e
          refine wp_flow [[], [], [1], [2, 1], [3, 2, 1], [], [5], [4, 3, 2, 1, 6, 5], [0, 1, 2, 3, 4, 5, 6, 7], [8, 0, 1, 2, 3, 4, 5, 6, 7], [9, 8, 0, 1, 2, 3, 4, 5, 6, 7]] 10
            (fun V => V.cell? ⟨B5, 0, none⟩ = some (.int .i64 x.f0) ∧ V.cell? ⟨B5, 1, none⟩ = some (.int .u8 x.f1) ∧ V.cell? ⟨B5, 2, none⟩ = some (.int .i64 x.f2) ∧ V.cell? ⟨B5, 3, none⟩ = some (.int .i64 x.f3) ∧ V.cell? ⟨B5, 4, none⟩ = some (.int .i64 x.f4.f0) ∧ V.cell? ⟨B5, 5, none⟩ = some (.int .i64 x.f4.f1) ∧ V.cell? ⟨g, n * 9 + 6, none⟩ = some (.int .i64 pp.f3.f0) ∧ V.cell? ⟨g, n * 9 + 7, none⟩ = some (.int .i64 pp.f3.f1) ∧ Below W6.heap.size W6 V)
            { tmps := #[.agg #[.int .i64 ho.f0, .int .i64 ho.f1, .int .i64 fi.f0, .int .i64 fi.f1, .slice (some ad) l.length c], .pointer (some ⟨w.heap.size, 0, none⟩), .pointer (some ⟨w.heap.size + 1, 0, none⟩), .pointer (some ⟨w.heap.size + 1 + 1 + 1 + 1, 0, none⟩), undef, .pointer (some ⟨B5, 0, none⟩), .int .i64 (wrap64 n), .pointer (some ⟨g, n * 9, none⟩), u8, u9, u10, .agg #[.int .i64 0, .int .i64 0, .int .i64 0, .int .i64 0, .int .i64 0, .int .i64 0, .int .i64 0, .int .i64 0, .int .i64 0], .slice (some ⟨w.heap.size + 1 + 1, 0, none⟩) 1 1, .map (some (w.heap.size + 1 + 1 + 1)), .agg #[.slice none 0 0, .slice (some ⟨w.heap.size + 1 + 1, 0, none⟩) 1 1, .map (some (w.heap.size + 1 + 1 + 1))], .pointer (some ⟨w.heap.size, 4, none⟩), .slice (some ad) l.length c, .int .i64 l.length, .int .i64 k, .bool true, .pointer (some (ad.add (k * 11))), .agg #[.int .i64 x.f0, .int .u8 x.f1, .int .i64 x.f2, .int .i64 x.f3, .int .i64 x.f4.f0, .int .i64 x.f4.f1, .int .i64 x.f5.f0, .int .i64 x.f5.f1, .int .i64 x.f6.f0, .int .i64 x.f6.f1, .int .i64 x.f7], .pointer (some ⟨w.heap.size + 1 + 1 + 1 + 1, 1, none⟩), .slice (some ⟨g, 0, none⟩) (n + 1) cap, .int .i64 (n + 1), .int .i64 (wrap64 n), .pointer (some ⟨w.heap.size + 1 + 1 + 1 + 1, 1, none⟩), .slice (some ⟨g, 0, none⟩) (n + 1) cap, .int .i64 (wrap64 n), .pointer (some ⟨g, n * 9, none⟩), .pointer (some ⟨B5, 1, none⟩), .int .u8 x.f1, .bool false, .bool false, u34, u35, u36, u37, u38, u39, u40, u41, u42, u43, u44, u45, .bool false, .bool false, u48, u49, u50, u51, u52, u53, u54, u55, u56, u57, u58, u59, u60, u61, u62, u63, u64, u65, u66, u67, .bool false, .bool false, u70, u71, u72, u73, u74, u75, u76, u77, u78, u79, u80, u81, u82, u83, u84, u85, u86, u87, u88, u89, u90, u91, u92, u93, u94, u95, u96, u97, u98, u99, u100, u101, u102, u103, u104, u105, u106, u107, u108, u109, u110, u111, u112, u113, .bool true, .bool true, .pointer (some ⟨g, n * 9, none⟩), .pointer (some ⟨g, n * 9, none⟩), .pointer (some ⟨g, n * 9, none⟩), .pointer (some ⟨g, n * 9 + 6, none⟩), .agg #[.int .i64 pp.f3.f0, .int .i64 pp.f3.f1], .pointer (some ⟨B5, 4, none⟩), .agg #[.int .i64 x.f4.f0, .int .i64 x.f4.f1], .agg #[.int .i64 ((plusS pp.f3 x.f4).f0), .int .i64 ((plusS pp.f3 x.f4).f1)], .pointer (some ⟨g, n * 9, none⟩), .pointer (some ⟨g, n * 9 + 6, none⟩), u126, u127, u128, u129, u130, u131, u132, u133, u134, u135, u136, u137, u138, u139, u140, u141, u142, u143, u144, u145, u146, u147, u148, u149, u150, u151, u152, u153, u154, u155, u156, u157, u158, u159, u160, u161, u162, u163, u164, u165, undef], defers := [] }
            mixed (by kernel_rfl) rfl (Ahead.of3 116 126 rfl rfl (by kernel_rfl) rfl rfl) ?_ (AllFlow.ops rfl ?_) rfl ?_
          · exact ⟨blkCell HE5.out 0, blkCell HE5.out 1, blkCell HE5.out 2, blkCell HE5.out 3, blkCell HE5.out 4, blkCell HE5.out 5, q0, q1, (Below.refl _ _).drew⟩
          · refine ⟨?_, ?_, ?_, ?_, ?_, ?_, ?_, ?_, ?_, ?_, trivial⟩
            · exact .val 116 _ rfl rfl fun V ⟨y0, y1, y2, y3, y4, y5, x0, x1, hB_⟩ => by go_simp
            · exact .val 117 _ rfl rfl fun V ⟨y0, y1, y2, y3, y4, y5, x0, x1, hB_⟩ => by go_simp
            · exact .val 118 _ rfl rfl fun V ⟨y0, y1, y2, y3, y4, y5, x0, x1, hB_⟩ => by go_simp
            · exact .val 119 _ rfl rfl fun V ⟨y0, y1, y2, y3, y4, y5, x0, x1, hB_⟩ => by go_simp
            · exact .val 120 _ rfl rfl fun V ⟨y0, y1, y2, y3, y4, y5, x0, x1, hB_⟩ => by go_simp
            · exact .val 121 _ rfl rfl fun V ⟨y0, y1, y2, y3, y4, y5, x0, x1, hB_⟩ => by go_simp
            · exact .val 122 _ rfl rfl fun V ⟨y0, y1, y2, y3, y4, y5, x0, x1, hB_⟩ => by go_simp
            · refine .call 123 (.agg #[.int .i64 ((plusS pp.f3 x.f4).f0), .int .i64 ((plusS pp.f3 x.f4).f1)]) 58 #[.agg #[.int .i64 pp.f3.f0, .int .i64 pp.f3.f1], .agg #[.int .i64 x.f4.f0, .int .i64 x.f4.f1]] rfl rfl (fun V ⟨y0, y1, y2, y3, y4, y5, x0, x1, hB_⟩ => by go_simp) fun V ⟨y0, y1, y2, y3, y4, y5, x0, x1, hB_⟩ => ?_
              refine (plus_any pp.f3 x.f4 _).mono ?_
              rintro e w' ⟨rfl, hb⟩
              exact ⟨rfl, cell_grow y0 hb, cell_grow y1 hb, cell_grow y2 hb, cell_grow y3 hb, cell_grow y4 hb, cell_grow y5 hb, cell_grow x0 hb, cell_grow x1 hb, hB_.trans (hb.mono hB_.size)⟩
            · exact .val 124 _ rfl rfl fun V ⟨y0, y1, y2, y3, y4, y5, x0, x1, hB_⟩ => by go_simp
            · exact .val 125 _ rfl rfl fun V ⟨y0, y1, y2, y3, y4, y5, x0, x1, hB_⟩ => by go_simp
          rintro V ⟨y0, y1, y2, y3, y4, y5, x0, x1, hB_⟩
          have hKv := HK6.out.grow hB_
          have f0 := hKv.pfrozen rfl (n * 9 + 6)
          have f1 := hKv.pfrozen rfl (n * 9 + 7)
          have hKb := hKv.span3 rfl (k := n) hnl (plusS pp.f3 x.f4)
          rw [hpp] at hKb
          have hq9 : g ≠ B5 := by have := HQ.out; omega
          have e5 := heap_grow HE5.out hB_
          have e5 := set_other (p := ⟨g, n * 9 + 7, none⟩) (v := .int .i64 (plusS pp.f3 x.f4).f1) (by simp; omega) (set_other (p := ⟨g, n * 9 + 6, none⟩) (v := .int .i64 (plusS pp.f3 x.f4).f0) (by simp; omega) e5)
          have HKB := hid hKb
          have HE6 := hid e5
          clear y0 y1 y2 y3 y4 y5 q0 q1 hKv hKb hB_ e5
          go_upto_region 22 with fail
          clear x0 x1 f0 f1
          generalize ((V.setCell ⟨g, n * 9 + 6, none⟩ (.int .i64 (plusS pp.f3 x.f4).f0)).setCell ⟨g, n * 9 + 7, none⟩ (.int .i64 (plusS pp.f3 x.f4).f1)) = Wb at *
          obtain ⟨es, cl, hmu, hmi⟩ := run_put (n := (n : Int)) (s := x.f4) HKB.out.mp (HSO.out.pack HKE.out)
          have hKc := HKB.out.put hmi
          generalize Wb.putObj (w.heap.size + 1 + 1 + 1) (.map es cl) = Wc at *
          have y3 := blkCell HE6.out 3
          have y4 := blkCell HE6.out 4
          have y5 := blkCell HE6.out 5
          simp at y3 y4 y5
          have z0 := blkCell HKB.out.st 0
          have z1 := blkCell HKB.out.st 1
          have z2 := blkCell HKB.out.st 2
          simp at z0 z1 z2
          have hwn := HWN.out
          have HF := hid hKc
          have HSS := hid (show stepK s x = { s with ps := s.ps.set n { pp with f3 := plusS pp.f3 x.f4 }, pk := s.pk ++ [(x.f3, (n : Int), x.f4)] } by rw [HS.out]; unfold packK KS.last; rw [HN.out]; simp only [Nat.add_sub_cancel]; rw [hpp, show (((n + 1 : Nat) : Int) - 1) = n by omega])
          clear hKc hmi
          go_wp2
          go_meet
          case rel => exact ⟨rfl, hid ⟨_, _, by rw [HSS.out]; exact HF.out⟩⟩
        by_cases hk6 : x.f1 = 6
        · have HS := hid (show stepK s x = closeK s by unfold stepK; simp [hk1, hk5, hk2, hk4, hk6])
          have f1 : (x.f1 == 1) = false := by simpa using hk1
          have f5 : (x.f1 == 5) = false := by simpa using hk5
          have f2 : (x.f1 == 2) = false := by simpa using hk2
          have f4 : (x.f1 == 4) = false := by simpa using hk4
          have f6 : (x.f1 == 6) = true := by simpa using hk6
          have HKE := hid hk6
          clear hk1 hk5 hk2 hk4 hk6
          have z0 := blkCell HK6.out.st 0
          have z1 := blkCell HK6.out.st 1
          have z2 := blkCell HK6.out.st 2
          simp at z0 z1 z2
          rw [HN.out] at z1
          have hq0 := HQ.out
          obtain ⟨hq0, hq1, hq2⟩ := hq0
          have hqa : w.heap.size + 1 + 1 + 1 + 1 < W6.heap.size := by omega
          go_wp2_with (at_builtin; refine Hid.out ?_)
          refine hid ?_
          clear z0 z1 z2 hqa hq0 hq1 hq2
          have hgr := (Below.refl W6.heap.size W6).alloc (Nat.le_refl _) (.cells #[.int .i64 0, .int .i64 0, .int .i64 0, .int .i64 0, .int .i64 0, .int .i64 0, .int .i64 0, .int .i64 0, .int .i64 0] 52)
          have hnew := World.alloc_heap_new W6 (.cells #[.int .i64 0, .int .i64 0, .int .i64 0, .int .i64 0, .int .i64 0, .int .i64 0, .int .i64 0, .int .i64 0, .int .i64 0] 52)
          have hK7 := HK6.out.grow hgr
          have hs7 : w.heap.size + 1 + 1 ≤ (W6.alloc (.cells #[.int .i64 0, .int .i64 0, .int .i64 0, .int .i64 0, .int .i64 0, .int .i64 0, .int .i64 0, .int .i64 0, .int .i64 0] 52)).heap.size := by have := HQ.out.1; have := hK7.be.size; have := cell_lt (blkCell hK7.st 2); omega
          generalize W6.alloc (.cells #[.int .i64 0, .int .i64 0, .int .i64 0, .int .i64 0, .int .i64 0, .int .i64 0, .int .i64 0, .int .i64 0, .int .i64 0] 52) = W7 at *
          generalize W6.heap.size = B6 at *
          obtain ⟨i0, hi, hz0, hz1, hz2⟩ := info52'
          refine wpList_append_own W7 rfl _ _ 46 rfl (w.heap.size + 1 + 1) 52 i0 _ 9 72 Try.underlying46 hi hz0 hz1 hz2 rfl (by decide) (.slice (some ⟨g, 0, none⟩) s.ps.length cap) s.ps.length (pF s.ps) (by rw [HN.out]; rfl) hK7.rp ⟨B6, 0, none⟩ 1 1 (pC z52) rfl rfl (row_cells hnew) (by simp [pC, Value.oneCell']) (by have := HLN.out.2.1; unfold maxLen; omega) (by have := HLN.out.2.1; omega) hs7 ?_
          intro v' W8 hown' hgrow _
          have hK9 := hK7.close z52 hown' hgrow
          obtain ⟨g', cap', rfl⟩ := ownsRow_succ hown'
          have hst := grown_blk hgrow (row_ne_blk hK7.rp hK7.st (by decide)) hK7.st
          have z0 := blkCell hst 1
          have zf := blkFrozen hst 1
          simp at z0
          have HF := hid hK9
          clear hgr hnew hK7 hs7 hi hz0 hz1 hz2 hown' hgrow hK9 hst
          go_wp2
          go_meet
          case rel => exact ⟨rfl, hid ⟨_, _, by rw [HS.out]; exact HF.out⟩⟩
        by_cases hk7 : x.f1 = 7
        · have HS := hid (show stepK s x = claimK s x by unfold stepK; simp [hk1, hk5, hk2, hk4, hk6, hk7])
          have f1 : (x.f1 == 1) = false := by simpa using hk1
          have f5 : (x.f1 == 5) = false := by simpa using hk5
          have f2 : (x.f1 == 2) = false := by simpa using hk2
          have f4 : (x.f1 == 4) = false := by simpa using hk4
          have f6 : (x.f1 == 6) = false := by simpa using hk6
          have f7 : (x.f1 == 7) = true := by simpa using hk7
          have HKE := hid hk7
          clear hk1 hk5 hk2 hk4 hk6 hk7
          obtain ⟨⟨kk, pi, sp⟩, hf7, hp7, hl7⟩ := HSO.out.claim HKE.out
          simp only at hp7 hl7
          obtain ⟨pj, rfl⟩ : ∃ pj : Nat, pi = pj := ⟨pi.toNat, by omega⟩
          have hl7 : pj < s.ps.length := by omega
          have hlk := run_look HK6.out.mp hf7
          simp only at hlk
          have z0 := blkCell HK6.out.st 0
          have z1 := blkCell HK6.out.st 1
          have z2 := blkCell HK6.out.st 2
          simp at z0 z1 z2
          have y3 := blkCell HE5.out 3
          simp at y3
          have hqa : w.heap.size + 1 + 1 + 1 + 1 < W6.heap.size := by have := HQ.out; omega
          clear hwn hwm hp7
          go_upto_region 27 with fail
          have hgr := (Below.refl W6.heap.size W6).alloc (Nat.le_refl _) (.cells #[.int .i64 pj, .int .i64 sp.f0, .int .i64 sp.f1] 77)
          have e10 := World.alloc_heap_new W6 (.cells #[.int .i64 pj, .int .i64 sp.f0, .int .i64 sp.f1] 77)
          have hKa := HK6.out.grow hgr
          have e5 := heap_grow HE5.out hgr
          generalize W6.alloc (.cells #[.int .i64 pj, .int .i64 sp.f0, .int .i64 sp.f1] 77) = Wa at *
          generalize W6.heap.size = B10 at *
          clear hgr y3 z0 z1 z2 hqa hlk
          obtain ⟨pp, hpp⟩ : ∃ pp, s.ps.getD pj z52 = pp := ⟨_, rfl⟩
          have q0 : Wa.cell? ⟨g, pj * 9 + 8, none⟩ = some (.int .i64 pp.f4) := by have e := hKa.pcell (k := pj) (j := 8) rfl hl7 (by omega); rw [hpp] at e; exact e
          have z1 := blkCell hKa.st 1
          simp at z1
          rw [HN.out] at z1
          have hln : (pj : Int) < (n : Int) + 1 := by have := HN.out; omega
          have hln2 : pj < n + 1 := by omega
          have hld : decide ((pj : Int) < (n : Int) + 1) = true := decide_eq_true hln
          refine wp_flow [[], [0], [], [2], [1, 0, 3, 2], [4, 1, 0, 3, 2], [5, 4, 1, 0, 3, 2], [], [7], [], [9], [10, 9], [8, 7, 11, 10, 9], [6, 5, 4, 1, 0, 3, 2, 12, 8, 7, 11, 10, 9], [1, 0, 3, 2, 4, 5, 6, 7, 8, 9, 10, 11, 12, 13], [14, 1, 0, 3, 2, 4, 5, 6, 7, 8, 9, 10, 11, 12, 13], [15, 14, 1, 0, 3, 2, 4, 5, 6, 7, 8, 9, 10, 11, 12, 13]] 16
            (fun V => V.cell? ⟨B5, 0, none⟩ = some (.int .i64 x.f0) ∧ V.cell? ⟨B5, 1, none⟩ = some (.int .u8 x.f1) ∧ V.cell? ⟨B5, 2, none⟩ = some (.int .i64 x.f2) ∧ V.cell? ⟨B5, 3, none⟩ = some (.int .i64 x.f3) ∧ V.cell? ⟨B5, 4, none⟩ = some (.int .i64 x.f4.f0) ∧ V.cell? ⟨B5, 5, none⟩ = some (.int .i64 x.f4.f1) ∧ V.cell? ⟨B5, 6, none⟩ = some (.int .i64 x.f5.f0) ∧ V.cell? ⟨B5, 7, none⟩ = some (.int .i64 x.f5.f1) ∧ V.cell? ⟨B5, 8, none⟩ = some (.int .i64 x.f6.f0) ∧ V.cell? ⟨B5, 9, none⟩ = some (.int .i64 x.f6.f1) ∧ V.cell? ⟨B5, 10, none⟩ = some (.int .i64 x.f7) ∧ V.cell? ⟨B10, 0, none⟩ = some (.int .i64 pj) ∧ V.cell? ⟨B10, 1, none⟩ = some (.int .i64 sp.f0) ∧ V.cell? ⟨B10, 2, none⟩ = some (.int .i64 sp.f1) ∧ V.cell? ⟨g, pj * 9 + 8, none⟩ = some (.int .i64 pp.f4) ∧ V.cell? ⟨w.heap.size + 1 + 1 + 1 + 1, 1, none⟩ = some (.slice (some ⟨g, 0, none⟩) (n + 1) cap) ∧ Below Wa.heap.size Wa V)
            { tmps := #[.agg #[.int .i64 ho.f0, .int .i64 ho.f1, .int .i64 fi.f0, .int .i64 fi.f1, .slice (some ad) l.length c], .pointer (some ⟨w.heap.size, 0, none⟩), .pointer (some ⟨w.heap.size + 1, 0, none⟩), .pointer (some ⟨w.heap.size + 1 + 1 + 1 + 1, 0, none⟩), undef, .pointer (some ⟨B5, 0, none⟩), .int .i64 (wrap64 n), .pointer (some ⟨g, n * 9, none⟩), u8, u9, .pointer (some ⟨B10, 0, none⟩), .agg #[.int .i64 0, .int .i64 0, .int .i64 0, .int .i64 0, .int .i64 0, .int .i64 0, .int .i64 0, .int .i64 0, .int .i64 0], .slice (some ⟨w.heap.size + 1 + 1, 0, none⟩) 1 1, .map (some (w.heap.size + 1 + 1 + 1)), .agg #[.slice none 0 0, .slice (some ⟨w.heap.size + 1 + 1, 0, none⟩) 1 1, .map (some (w.heap.size + 1 + 1 + 1))], .pointer (some ⟨w.heap.size, 4, none⟩), .slice (some ad) l.length c, .int .i64 l.length, .int .i64 k, .bool true, .pointer (some (ad.add (k * 11))), .agg #[.int .i64 x.f0, .int .u8 x.f1, .int .i64 x.f2, .int .i64 x.f3, .int .i64 x.f4.f0, .int .i64 x.f4.f1, .int .i64 x.f5.f0, .int .i64 x.f5.f1, .int .i64 x.f6.f0, .int .i64 x.f6.f1, .int .i64 x.f7], .pointer (some ⟨w.heap.size + 1 + 1 + 1 + 1, 1, none⟩), .slice (some ⟨g, 0, none⟩) (n + 1) cap, .int .i64 (n + 1), .int .i64 (wrap64 n), .pointer (some ⟨w.heap.size + 1 + 1 + 1 + 1, 1, none⟩), .slice (some ⟨g, 0, none⟩) (n + 1) cap, .int .i64 (wrap64 n), .pointer (some ⟨g, n * 9, none⟩), .pointer (some ⟨B5, 1, none⟩), .int .u8 x.f1, .bool false, .bool false, u34, u35, u36, u37, u38, u39, u40, u41, u42, u43, u44, u45, .bool false, .bool false, u48, u49, u50, u51, u52, u53, u54, u55, u56, u57, u58, u59, u60, u61, u62, u63, u64, u65, u66, u67, .bool false, .bool false, u70, u71, u72, u73, u74, u75, u76, u77, u78, u79, u80, u81, u82, u83, u84, u85, u86, u87, u88, u89, u90, u91, u92, u93, u94, u95, u96, u97, u98, u99, u100, u101, u102, u103, u104, u105, u106, u107, u108, u109, u110, u111, u112, u113, .bool false, .bool false, u116, u117, u118, u119, u120, u121, u122, u123, u124, u125, u126, u127, u128, u129, u130, u131, u132, u133, .bool false, .bool false, u136, u137, u138, u139, u140, u141, .bool true, .bool true, .pointer (some ⟨w.heap.size + 1 + 1 + 1 + 1, 2, none⟩), .map (some (w.heap.size + 1 + 1 + 1)), .pointer (some ⟨B5, 3, none⟩), .int .i64 x.f3, .agg #[.int .i64 pj, .int .i64 sp.f0, .int .i64 sp.f1], .pointer (some ⟨w.heap.size + 1 + 1 + 1 + 1, 1, none⟩), .slice (some ⟨g, 0, none⟩) (n + 1) cap, .pointer (some ⟨B10, 0, none⟩), .int .i64 pj, .pointer (some ⟨g, pj * 9, none⟩), .pointer (some ⟨g, pj * 9 + 8, none⟩), .int .i64 pp.f4, .pointer (some ⟨B5, 10, none⟩), .int .i64 x.f7, .pointer (some ⟨B10, 1, none⟩), .pointer (some ⟨B10, 2, none⟩), .int .i64 sp.f1, .int .i64 (wrap64 (x.f7 * sp.f1)), .int .i64 (wrap64 (pp.f4 + wrap64 (x.f7 * sp.f1))), .pointer (some ⟨g, pj * 9, none⟩), .pointer (some ⟨g, pj * 9 + 8, none⟩), u165, undef], defers := [] }
            mixed (by kernel_rfl) rfl (Ahead.of3 149 165 rfl rfl (by kernel_rfl) rfl rfl) ?_ (AllFlow.ops rfl ?_) rfl ?_
          · exact ⟨blkCell e5 0, blkCell e5 1, blkCell e5 2, blkCell e5 3, blkCell e5 4, blkCell e5 5, blkCell e5 6, blkCell e5 7, blkCell e5 8, blkCell e5 9, blkCell e5 10, blkCell e10 0, blkCell e10 1, blkCell e10 2, q0, z1, (Below.refl _ _).drew⟩
          · refine ⟨?_, ?_, ?_, ?_, ?_, ?_, ?_, ?_, ?_, ?_, ?_, ?_, ?_, ?_, ?_, ?_, trivial⟩
            · exact .val 149 _ rfl rfl fun V ⟨y0, y1, y2, y3, y4, y5, y6, y7, y8, y9, y10, y11, y12, y13, x0, x1, hB_⟩ => by go_simp
            · exact .val 150 _ rfl rfl fun V ⟨y0, y1, y2, y3, y4, y5, y6, y7, y8, y9, y10, y11, y12, y13, x0, x1, hB_⟩ => by go_simp
            · exact .val 151 _ rfl rfl fun V ⟨y0, y1, y2, y3, y4, y5, y6, y7, y8, y9, y10, y11, y12, y13, x0, x1, hB_⟩ => by go_simp
            · exact .val 152 _ rfl rfl fun V ⟨y0, y1, y2, y3, y4, y5, y6, y7, y8, y9, y10, y11, y12, y13, x0, x1, hB_⟩ => by go_simp
            · exact .val 153 _ rfl rfl fun V ⟨y0, y1, y2, y3, y4, y5, y6, y7, y8, y9, y10, y11, y12, y13, x0, x1, hB_⟩ => by go_simp <;> exact fun hh => absurd hh (by omega)
            · exact .val 154 _ rfl rfl fun V ⟨y0, y1, y2, y3, y4, y5, y6, y7, y8, y9, y10, y11, y12, y13, x0, x1, hB_⟩ => by go_simp
            · exact .val 155 _ rfl rfl fun V ⟨y0, y1, y2, y3, y4, y5, y6, y7, y8, y9, y10, y11, y12, y13, x0, x1, hB_⟩ => by go_simp
            · exact .val 156 _ rfl rfl fun V ⟨y0, y1, y2, y3, y4, y5, y6, y7, y8, y9, y10, y11, y12, y13, x0, x1, hB_⟩ => by go_simp
            · exact .val 157 _ rfl rfl fun V ⟨y0, y1, y2, y3, y4, y5, y6, y7, y8, y9, y10, y11, y12, y13, x0, x1, hB_⟩ => by go_simp
            · exact .val 158 _ rfl rfl fun V ⟨y0, y1, y2, y3, y4, y5, y6, y7, y8, y9, y10, y11, y12, y13, x0, x1, hB_⟩ => by go_simp
            · exact .val 159 _ rfl rfl fun V ⟨y0, y1, y2, y3, y4, y5, y6, y7, y8, y9, y10, y11, y12, y13, x0, x1, hB_⟩ => by go_simp
            · exact .val 160 _ rfl rfl fun V ⟨y0, y1, y2, y3, y4, y5, y6, y7, y8, y9, y10, y11, y12, y13, x0, x1, hB_⟩ => by go_simp
            · exact .val 161 _ rfl rfl fun V ⟨y0, y1, y2, y3, y4, y5, y6, y7, y8, y9, y10, y11, y12, y13, x0, x1, hB_⟩ => by go_simp <;> exact wrap_i _
            · exact .val 162 _ rfl rfl fun V ⟨y0, y1, y2, y3, y4, y5, y6, y7, y8, y9, y10, y11, y12, y13, x0, x1, hB_⟩ => by go_simp <;> exact wrap_i _
            · exact .val 163 _ rfl rfl fun V ⟨y0, y1, y2, y3, y4, y5, y6, y7, y8, y9, y10, y11, y12, y13, x0, x1, hB_⟩ => by go_simp <;> exact fun hh => absurd hh (by omega)
            · exact .val 164 _ rfl rfl fun V ⟨y0, y1, y2, y3, y4, y5, y6, y7, y8, y9, y10, y11, y12, y13, x0, x1, hB_⟩ => by go_simp
          rintro V ⟨y0, y1, y2, y3, y4, y5, y6, y7, y8, y9, y10, y11, y12, y13, x0, x1, hB_⟩
          have hKv := hKa.grow hB_
          have f0 := hKv.pfrozen rfl (pj * 9 + 8)
          have hKb := hKv.period (k := pj) (j := 8) (v := .int .i64 (wrap64 (pp.f4 + wrap64 (x.f7 * sp.f1)))) (p := { s.ps.getD pj z52 with f4 := wrap64 (pp.f4 + wrap64 (x.f7 * sp.f1)) }) hl7 (by omega) rfl
          have HF := hid hKb
          have HSS := hid (show stepK s x = { s with ps := s.ps.set pj { s.ps.getD pj z52 with f4 := wrap64 (pp.f4 + wrap64 (x.f7 * sp.f1)) } } by
            have hat : s.at x.f3 = ((pj : Int), sp) := by unfold KS.at; rw [hf7]; rfl
            rw [HS.out]; unfold claimK claimP; rw [hat]; simp only [Int.toNat_natCast]; rw [hpp])
          clear y0 y1 y2 y3 y4 y5 y6 y7 y8 y9 y10 y11 y12 y13 q0 hKv hKb hB_ e5 e10 hKa hln hln2 hld
          go_wp2
          go_meet
          case rel => exact ⟨rfl, hid ⟨_, _, by rw [HSS.out]; exact HF.out⟩⟩
        have HS := hid (show stepK s x = s by unfold stepK; simp [hk1, hk5, hk2, hk4, hk6, hk7])
        have f1 : (x.f1 == 1) = false := by simpa using hk1
        have f5 : (x.f1 == 5) = false := by simpa using hk5
        have f2 : (x.f1 == 2) = false := by simpa using hk2
        have f4 : (x.f1 == 4) = false := by simpa using hk4
        have f6 : (x.f1 == 6) = false := by simpa using hk6
        have f7 : (x.f1 == 7) = false := by simpa using hk7
        clear hk1 hk5 hk2 hk4 hk6 hk7
        go_wp2
        go_meet
        case rel => exact ⟨rfl, hid ⟨_, _, by rw [HS.out]; exact HK6.out⟩⟩
      case rest =>
        obtain ⟨rfl, vh', vp', hK'⟩ := hcut
        rw [← HNX.out] at hK'
        have HK' := hid hK'
        clear hK'
        go_wp2
        go_roundw
        case rel => exact ⟨k + 1, by omega, by go_num, hid ⟨_, _, HK'.out⟩⟩
        case measure => simp [intOf]; omega
    · obtain rfl : k = l.length := by omega
      rw [List.take_length] at hKI
      generalize keptOf l = s at *
      obtain ⟨A1, n1', c1', hvh⟩ : ∃ A' n' c', vh = .slice A' n' c' := by
        rcases hKI.rh.2 with ⟨e, _⟩ | ⟨_, _, _, e, _⟩ <;> exact ⟨_, _, _, e⟩
      obtain ⟨A2, n2', c2', hvp⟩ : ∃ A' n' c', vp = .slice A' n' c' := by
        rcases hKI.rp.2 with ⟨e, _⟩ | ⟨_, _, _, e, _⟩ <;> exact ⟨_, _, _, e⟩
      subst hvh hvp
      have z0 := blkCell hKI.st 0
      have z1 := blkCell hKI.st 1
      have z2 := blkCell hKI.st 2
      have f0 := blkFrozen hKI.rs 0
      have f1 := blkFrozen hKI.rs 1
      have f2 := blkFrozen hKI.rs 2
      have r0 := blkCell hKI.rs 0
      have r1 := blkCell hKI.rs 1
      have r2 := blkCell hKI.rs 2
      simp at z0 z1 z2 r0 r1 r2
      have HKI := hid hKI
      clear hKI HX
      go_wp2
      have hKI := HKI.out
      have n1 := row_ne_blk hKI.rh hKI.rs (by decide)
      have n2 := row_ne_blk hKI.rp hKI.rs (by decide)
      have hz := st3_same hKI.rs (.slice A1 n1' c1') (.slice A2 n2' c2') (.map (some (w.heap.size + 1 + 1 + 1)))
      have hb := st3_below hKI.be (show w.heap.size ≤ w.heap.size + 1 by omega) (.slice A1 n1' c1') (.slice A2 n2' c2') (.map (some (w.heap.size + 1 + 1 + 1)))
      have hrh := ownsRow_setCell_other (a := ⟨w.heap.size + 1, 2, none⟩) (ownsRow_setCell_other (a := ⟨w.heap.size + 1, 1, none⟩) (ownsRow_setCell_other (a := ⟨w.heap.size + 1, 0, none⟩) hKI.rh n1 (.slice A1 n1' c1')) n1 (.slice A2 n2' c2')) n1 (.map (some (w.heap.size + 1 + 1 + 1)))
      have hrp := ownsRow_setCell_other (a := ⟨w.heap.size + 1, 2, none⟩) (ownsRow_setCell_other (a := ⟨w.heap.size + 1, 1, none⟩) (ownsRow_setCell_other (a := ⟨w.heap.size + 1, 0, none⟩) hKI.rp n2 (.slice A1 n1' c1')) n2 (.slice A2 n2' c2')) n2 (.map (some (w.heap.size + 1 + 1 + 1)))
      have hmp := MapI.keep hKI.mp (fun o ho => st3_other (b := w.heap.size + 1) (by omega) ho (.slice A1 n1' c1') (.slice A2 n2' c2') (.map (some (w.heap.size + 1 + 1 + 1))))
      generalize (((Wk.setCell ⟨w.heap.size + 1, 0, none⟩ (.slice A1 n1' c1')).setCell ⟨w.heap.size + 1, 1, none⟩ (.slice A2 n2' c2')).setCell ⟨w.heap.size + 1, 2, none⟩ (.map (some (w.heap.size + 1 + 1 + 1)))) = Wz at *
      have q0 := blkCell hz 0
      have q1 := blkCell hz 1
      have q2 := blkCell hz 2
      simp at q0 q1 q2
      refine bodyPost_ret (v := .agg #[.slice A1 n1' c1', .slice A2 n2' c2', .map (some (w.heap.size + 1 + 1 + 1))]) (by simp [results, Try.results29, go_sem, q0, q1, q2]) rfl ?_
      exact ⟨_, _, _, rfl, by omega, own_lower (by omega) hrh, own_lower (by omega) hrp, hmp, hb⟩
end Go.Proofs.Ytbmkbokkmmdjdaa
end
