-- T2 QV (wip/pack9.py)
import Derived.Test.YtbmkbokkmmdjdaaGreatY30
section
namespace Go.Proofs.YtbmkbokkmmdjdaaGreat
open Go.RowKit Go.Proofs.YtbmkbokkmmdjdaaGreatW.PrintWords Go.Proofs.YtbmkbokkmmdjdaaGreatW.PrintLast Go.Proofs.YtbmkbokkmmdjdaaGreatW.PrintMore
open Q Go.Shelf
attribute [local go_sem] Oper.semAt_some wide_depth wide_fn
set_option linter.unusedVariables false
set_option linter.unusedSimpArgs false

structure TI (w : World) (ho fi : S23) (A : Option Addr) (c : Nat) (l : List S93) (vk vg vr vs : Value) (vo : Value) (out : List Int) (W : World) : Prop where
  bx : W.heap[w.heap.size]? = some (.cells #[.int .i64 ho.f0, .int .i64 ho.f1, .int .i64 fi.f0, .int .i64 fi.f1, .slice A l.length c] 26 (0, 0))
  bt : W.heap[w.heap.size + 1]? = some (.cells #[vk, vg, vr, vs] 47 (0, 0))
  row : W.ownsRow (w.heap.size + 1 + 1) 3 1 vo out.length (cF out)
  be : Below w.heap.size w W
theorem TI.grow {w W W' : World} {ho fi : S23} {A : Option Addr} {c : Nat} {l : List S93} {vk vg vr vs : Value} {vo : Value} {out : List Int} (h : TI w ho fi A c l vk vg vr vs vo out W) (hb : Below W.heap.size W W') : TI w ho fi A c l vk vg vr vs vo out W' :=
  ⟨heap_grow h.bx hb, heap_grow h.bt hb, rings_set h.row hb, h.be.trans (hb.mono h.be.size)⟩
theorem TI.add {w W W' : World} {ho fi : S23} {A : Option Addr} {c : Nat} {l : List S93} {vk vg vr vs : Value} {vo vo' : Value} {out : List Int} (h : TI w ho fi A c l vk vg vr vs vo out W) (x : Int) (hr : W'.ownsRow (w.heap.size + 1 + 1) 3 1 vo' (out.length + 1) (cF out ++ [.int .i64 x])) (hg : W.grownBy W' vo.ownBlock) : TI w ho fi A c l vk vg vr vs vo' (out ++ [x]) W' := by
  have n1 := row_ne_base h.row (show w.heap.size + 1 < w.heap.size + 1 + 1 by omega)
  have n2 := row_ne_base h.row (show w.heap.size < w.heap.size + 1 + 1 by omega)
  refine ⟨grown_blk hg n2 h.bx, grown_blk hg n1 h.bt, ?_, h.be.grown hg h.be.size (fun j hj => by have := (h.row.lt j hj).1; omega)⟩
  rw [show cF (out ++ [x]) = cF out ++ [.int .i64 x] by simp [cF], List.length_append]
  exact hr
theorem amt_range (f : Nat → Int) (n : Nat) : (List.range (n + 1 + 1)).map f = (List.range (n + 1)).map f ++ [f (n + 1)] := by rw [List.range_succ, List.map_append]; rfl
set_option maxRecDepth 100000 in
set_option maxHeartbeats 8000000 in
set_option pp.deepTerms true in
set_option pp.maxSteps 1000000 in
theorem amounts_any (ho fi : S23) (A : Option Addr) (c : Nat) (l : List S93) (t : TS) (vk vg vr vs : Value) (first k h : Int) (w : World) (hr : Kd.C k93 w A l.length l) (hc : l.length ≤ c) (hl : l.length ≤ 256)
    (hkl : t.kl.length = l.length) (hgl : t.gl.length = l.length) (hrk : w.ownsRow 0 3 1 vk l.length (cF t.kl)) (hrg : w.ownsRow 0 3 1 vg l.length (cF t.gl)) (ha : (k = 0 ∧ h = 0) ∨ (k = 1 ∧ h = 0) ∨ k = 2) :
    Calls Tryz.prog 21 #[.agg #[.int .i64 ho.f0, .int .i64 ho.f1, .int .i64 fi.f0, .int .i64 fi.f1, .slice A l.length c], .agg #[vk, vg, vr, vs], .int .i64 first, .int .u8 k, .int .i64 h] w fun e w' => ∃ v, e = .returned v ∧ w'.ownsRow w.heap.size 3 1 v (l.length + 1) (cF (amtL first t l k h)) ∧ Below w.heap.size w w' := by
  have hu1 := Tryz.underlying26
  have hu2 := Tryz.underlying47
  have hu := Tryz.underlying93
  have hu7 := Tryz.underlying45
  have HB := Below.refl w.heap.size w
  have HBE0 := hid ((HB.alloc (Nat.le_refl _) (.cells #[.int .i64 ho.f0, .int .i64 ho.f1, .int .i64 fi.f0, .int .i64 fi.f1, .slice A l.length c] 26)).alloc (by simp) (.cells #[vk, vg, vr, vs] 47))
  have e0 := alloc_old (o' := (.cells #[vk, vg, vr, vs] 47)) (World.alloc_heap_new w (.cells #[.int .i64 ho.f0, .int .i64 ho.f1, .int .i64 fi.f0, .int .i64 fi.f1, .slice A l.length c] 26))
  have e1 := World.alloc_heap_new (w.alloc (.cells #[.int .i64 ho.f0, .int .i64 ho.f1, .int .i64 fi.f0, .int .i64 fi.f1, .slice A l.length c] 26)) (.cells #[vk, vg, vr, vs] 47)
  simp only [World.size_alloc] at e1
  have hsz : Hid (((w.alloc (.cells #[.int .i64 ho.f0, .int .i64 ho.f1, .int .i64 fi.f0, .int .i64 fi.f1, .slice A l.length c] 26)).alloc (.cells #[vk, vg, vr, vs] 47)).heap.size = w.heap.size + 1 + 1) := hid (by simp)
  have HR := hid hr
  have HC := hid (And.intro hc hl)
  have HRK := hid (And.intro hrk hkl)
  have HRG := hid (And.intro hrg hgl)
  have HA := hid ha
  clear hr hc hl hrk hrg hkl hgl ha HB
  go_enter Tryz.func21, Tryz.ntmps21
  go_upto_region 2 with fail
  generalize ((w.alloc (.cells #[.int .i64 ho.f0, .int .i64 ho.f1, .int .i64 fi.f0, .int .i64 fi.f1, .slice A l.length c] 26)).alloc (.cells #[vk, vg, vr, vs] 47)) = W2 at *
  have HE0 := hid e0
  have HE1 := hid e1
  clear e0 e1
  obtain ⟨n0, hn0⟩ : ∃ n0, amtT first t l k h 0 = n0 := ⟨_, rfl⟩
  have HN0 := hid hn0
  go_upto_if 19 with fail
  go_cut [11] from 20 to 21 (fun v11 wc => v11 = .int .i64 n0 ∧ Hid (Below W2.heap.size W2 wc))
  case first =>
    have HRF := hid (Below.refl W2.heap.size W2)
    by_cases hk : k = 0
    · have d1 : (k == 0) = true := by simp [hk]
      have hres : n0 = wrap64 (1000 * first) := by rw [← hn0]; show (if k = 0 then wrap64 (1000 * first) else 0) = _; rw [if_pos hk]
      clear hk hn0
      go_wp2
      go_meet
      case rel => exact ⟨by rw [hres], HRF⟩
    · have d1 : (k == 0) = false := by simp [hk]
      have hres : n0 = 0 := by rw [← hn0]; show (if k = 0 then wrap64 (1000 * first) else 0) = _; rw [if_neg hk]
      clear hk hn0
      go_wp2
      go_meet
      case rel => exact ⟨by rw [hres], HRF⟩
  case rest =>
  obtain ⟨rfl, hcb⟩ := hcut
  rename World => W3
  have hg3 := (Below.refl W3.heap.size W3).alloc (Nat.le_refl _) (.cells #[.int .i64 n0] 3)
  have hnew := World.alloc_heap_new W3 (.cells #[.int .i64 n0] 3)
  have hs3 : w.heap.size + 1 + 1 ≤ W3.heap.size := by have h1 := hsz.out; have h2 := hcb.out.size; omega
  have HBE1 := HBE0.out.trans (hcb.out.mono HBE0.out.size)
  have HT0 := hid (show TI w ho fi A c l vk vg vr vs (.slice (some ⟨W3.heap.size, 0, none⟩) 1 1) [n0] (W3.alloc (.cells #[.int .i64 n0] 3)) from
    ⟨heap_grow (heap_grow HE0.out hcb.out) hg3, heap_grow (heap_grow HE1.out hcb.out) hg3, ⟨rfl, .inr ⟨_, 1, _, rfl, hs3, hnew, Nat.le_refl _, by decide, rfl, rfl⟩⟩, HBE1.trans (hg3.mono HBE1.size)⟩)
  clear hg3 hnew hs3 HBE1 HE0 HE1 HBE0 hsz hcb hn0
  go_upto_region 5 with fail
  generalize W3.alloc (.cells #[.int .i64 n0] 3) = W4 at *
  generalize W3.heap.size = B12 at *
  go_wp2_with fail
  go_loopw [11, 12, 13, 14] (fun v11 v12 v13 v14 X => ∃ j : Nat, j ≤ l.length ∧ v14 = .int .i64 j ∧ v13 = .int .i64 (cnt isHeap (l.take j) : Nat) ∧ v11 = .int .i64 (amtT first t l k h j) ∧ ∃ vo : Value, vo = v12 ∧ Hid (TI w ho fi A c l vk vg vr vs vo ((List.range (j + 1)).map (amtT first t l k h)) X)) (fun v11 v12 v13 v14 _ => l.length - (intOf v14).toNat)
  case atStart => exact ⟨0, by omega, rfl, by simp [cnt], by rw [HN0.out], _, rfl, hid (by have := HT0.out; rw [← HN0.out] at this; exact this)⟩
  case round =>
    obtain ⟨j, hj, rfl, rfl, rfl, vo, rfl, HX⟩ := hrel
    rename World => Wk
    have b4 := blkCell HX.out.bx 4
    simp at b4
    by_cases hlt : j < l.length
    · obtain ⟨x, hx⟩ : ∃ x, l[j] = x := ⟨_, rfl⟩
      have hnx : amtT first t l k h (j + 1) = amtStep x (cnt isHeap (l.take j) : Nat) k h (t.kl.getD j 0) (t.gl.getD j 0) (amtT first t l k h j) := by
        show amtStep (l.getD j z93) _ k h _ _ _ = _
        rw [show l.getD j z93 = x by rw [← hx]; simp [List.getD, hlt]]
      have hcn := cnt_next hlt
      rw [hx] at hcn
      have HCN := hid hcn
      obtain ⟨kl, hkl⟩ : ∃ q, t.kl.getD j 0 = q := ⟨_, rfl⟩
      obtain ⟨gl, hgl⟩ : ∃ q, t.gl.getD j 0 = q := ⟨_, rfl⟩
      obtain ⟨n, hn⟩ : ∃ q, amtT first t l k h j = q := ⟨_, rfl⟩
      rw [hkl, hgl, hn] at hnx
      rw [hn]
      have HKL := hid hkl
      have HGL := hid hgl
      have HNX := hid hnx
      have HXX := hid hx
      have HLT := hid hlt
      clear hkl hgl hnx hn hcn
      obtain ⟨cmN, hcm⟩ : ∃ q, cnt isHeap (l.take j) = q := ⟨_, rfl⟩
      rw [hcm] at HCN HNX
      rw [hcm]
      clear hcm
      have hcc := at_T93 (Kd.C_below HR.out HX.out.be) j (by omega) (by have := HC.out.2; omega)
      rw [rdP hlt, hx] at hcc
      simp only [Int.toNat_natCast] at hcc
      obtain ⟨ad, rfl, k0, k1, k2, k3, k4, k5, k6, k7, k8, k9, k10⟩ := hcc
      obtain ⟨gk, ck, hvk⟩ : ∃ gk ck, vk = .slice (some ⟨gk, 0, none⟩) l.length ck := by
        rcases HRK.out.1.2 with ⟨h1, h2⟩ | ⟨g1, c1, u1, h1, _⟩
        · omega
        · exact ⟨g1, c1, h1⟩
      obtain ⟨gg, cg, hvg⟩ : ∃ gg cg, vg = .slice (some ⟨gg, 0, none⟩) l.length cg := by
        rcases HRG.out.1.2 with ⟨h1, h2⟩ | ⟨g1, c1, u1, h1, _⟩
        · omega
        · exact ⟨g1, c1, h1⟩
      subst hvk
      subst hvg
      have hgr := (Below.refl Wk.heap.size Wk).alloc (Nat.le_refl _) (.cells #[.int .i64 x.f0, .int .u8 x.f1, .int .i64 x.f2, .int .i64 x.f3, .int .i64 x.f4.f0, .int .i64 x.f4.f1, .int .i64 x.f5.f0, .int .i64 x.f5.f1, .int .i64 x.f6.f0, .int .i64 x.f6.f1, .int .i64 x.f7] 93)
      have HE15 := hid (World.alloc_heap_new Wk (.cells #[.int .i64 x.f0, .int .u8 x.f1, .int .i64 x.f2, .int .i64 x.f3, .int .i64 x.f4.f0, .int .i64 x.f4.f1, .int .i64 x.f5.f0, .int .i64 x.f5.f1, .int .i64 x.f6.f0, .int .i64 x.f6.f1, .int .i64 x.f7] 93))
      have HX6 := hid (HX.out.grow hgr)
      have hjl : (j : Int) < (l.length : Int) := by omega
      clear hgr HX hx
      go_upto_region 10 with fail
      clear k0 k1 k2 k3 k4 k5 k6 k7 k8 k9 k10 b4
      generalize Wk.alloc (.cells #[.int .i64 x.f0, .int .u8 x.f1, .int .i64 x.f2, .int .i64 x.f3, .int .i64 x.f4.f0, .int .i64 x.f4.f1, .int .i64 x.f5.f0, .int .i64 x.f5.f1, .int .i64 x.f6.f0, .int .i64 x.f6.f1, .int .i64 x.f7] 93) = W6 at *
      generalize Wk.heap.size = B15 at *
      have r1 : W6.cell? ⟨gk, j, none⟩ = some (.int .i64 kl) := by
        have e := (rings_set HRK.out.1 HX6.out.be).cellAt j (by have := HLT.out; omega)
        rw [cF_at (by have := HRK.out.2; have := HLT.out; omega), HKL.out] at e; exact e
      have b0 := blkCell HX6.out.bt 0
      simp at b0
      obtain ⟨G, hG⟩ : ∃ G, wrap64 (1000 * kl) = G := ⟨_, rfl⟩
      have HG := hid hG
      go_upto_region 11 with fail
      try simp only [wrap_i] at *
      try rw [hG]
      clear r1 b0 hG
      obtain ⟨cm, hcmI⟩ : ∃ q : Int, ((cmN : Nat) : Int) = q := ⟨_, rfl⟩
      rw [hcmI] at HNX
      rw [hcmI]
      have HCI := hid hcmI
      clear hcmI
      obtain ⟨ow, how⟩ : ∃ b, decide (k = 2 ∧ cm = h ∧ (x.f1 = 1 ∨ x.f1 = 5)) = b := ⟨_, rfl⟩
      have HOW := hid how
      clear how
      have y1 := blkCell HE15.out 1
      have y2 := blkCell HE15.out 2
      simp at y1 y2
      go_cut [17] from 42 to 58 (fun v17 wc => v17 = .bool ow ∧ Hid (Below W6.heap.size W6 wc))
      case first =>
        have HRF := hid (Below.refl W6.heap.size W6)
        by_cases k2 : k = 2
        · have j2 : (k == 2) = true := by simp [k2]
          by_cases hc : cm = h
          · have jc : (cm == h) = true := by simp [hc]
            by_cases x1 : x.f1 = 1
            · have f1 : (x.f1 == 1) = true := by simp [x1]
              have hb : ow = true := by rw [← HOW.out]; simp [k2, hc, x1]
              clear k2 hc x1
              go_wp2
              go_meet
              case rel => exact ⟨by rw [hb], HRF⟩
            · have f1 : (x.f1 == 1) = false := by simp [x1]
              by_cases x5 : x.f1 = 5
              · have f5 : (x.f1 == 5) = true := by simp [x5]
                have hb : ow = true := by rw [← HOW.out]; simp [k2, hc, x5]
                clear k2 hc x1 x5
                go_wp2
                go_meet
                case rel => exact ⟨by rw [hb], HRF⟩
              · have f5 : (x.f1 == 5) = false := by simp [x5]
                have hb : ow = false := by rw [← HOW.out]; simp [x1, x5]
                clear k2 hc x1 x5
                go_wp2
                go_meet
                case rel => exact ⟨by rw [hb], HRF⟩
          · have jc : (cm == h) = false := by simp [hc]
            have hb : ow = false := by rw [← HOW.out]; simp [hc]
            clear k2 hc
            go_wp2
            go_meet
            case rel => exact ⟨by rw [hb], HRF⟩
        · have j2 : (k == 2) = false := by simp [k2]
          have hb : ow = false := by rw [← HOW.out]; simp [k2]
          clear k2
          go_wp2
          go_meet
          case rel => exact ⟨by rw [hb], HRF⟩
      case rest =>
      obtain ⟨rfl, hcb⟩ := hcut
      have HE15b := hid (heap_grow HE15.out hcb.out)
      have HX7 := hid (HX6.out.grow hcb.out)
      clear hcb y1 y2 HE15 HX6
      clear W6
      rename World => W6
      have y1 := blkCell HE15b.out 1
      have y2 := blkCell HE15b.out 2
      have r2 : W6.cell? ⟨gg, j, none⟩ = some (.int .i64 gl) := by
        have e := (rings_set HRG.out.1 HX7.out.be).cellAt j (by have := HLT.out; omega)
        rw [cF_at (by have := HRG.out.2; have := HLT.out; omega), HGL.out] at e; exact e
      have b1 := blkCell HX7.out.bt 1
      simp at y1 y2 b1
      go_upto_block 2 with fail
      go_cut [11] from 59 to 127 (fun v11 wc => v11 = .int .i64 (amtStep x cm k h kl gl n) ∧ Hid (Below W6.heap.size W6 wc))
      case first =>
        have HRF := hid (Below.refl W6.heap.size W6)
        rcases HA.out with ⟨h1, h2⟩ | ⟨h1, h2⟩ | h1
        · subst h1
          have hb : ow = false := by rw [← HOW.out]; simp
          subst hb
          clear HA HNX HX7
          by_cases hk2 : x.f1 = 2
          · have HK := hid hk2
            clear hk2
            have hres : amtStep x cm 0 h kl gl n = wrap64 (n + gl) := by simp [amtStep, HK.out]
            have j0 : ((0 : Int) == 0) = true := by decide
            have j1 : ((0 : Int) == 1) = false := by decide
            have j2 : ((0 : Int) == 2) = false := by decide
            have f1 : (x.f1 == 1) = false := by simp [HK.out]
            have f2 : (x.f1 == 2) = true := by simp [HK.out]
            have f3 : (x.f1 == 3) = false := by simp [HK.out]
            have f4 : (x.f1 == 4) = false := by simp [HK.out]
            have f5 : (x.f1 == 5) = false := by simp [HK.out]
            go_wp2
            go_meet
            case rel => exact ⟨by rw [hres], HRF⟩
          by_cases hk3 : x.f1 = 3
          · have HK := hid hk3
            clear hk3
            have hres : amtStep x cm 0 h kl gl n = wrap64 (n - G) := by rw [← HG.out]; simp [amtStep, HK.out]
            have j0 : ((0 : Int) == 0) = true := by decide
            have j1 : ((0 : Int) == 1) = false := by decide
            have j2 : ((0 : Int) == 2) = false := by decide
            have f1 : (x.f1 == 1) = false := by simp [HK.out]
            have f2 : (x.f1 == 2) = false := by simp [HK.out]
            have f3 : (x.f1 == 3) = true := by simp [HK.out]
            have f4 : (x.f1 == 4) = false := by simp [HK.out]
            have f5 : (x.f1 == 5) = false := by simp [HK.out]
            go_wp2
            go_meet
            case rel => exact ⟨by rw [hres], HRF⟩
          have hn2 := hk2
          have hn3 := hk3
          clear hk2
          clear hk3
          have hres : amtStep x cm 0 h kl gl n = n := by simp [amtStep, hn2, hn3]
          have j0 : ((0 : Int) == 0) = true := by decide
          have j1 : ((0 : Int) == 1) = false := by decide
          have j2 : ((0 : Int) == 2) = false := by decide
          have f2 : (x.f1 == 2) = false := by simp [hn2]
          have f3 : (x.f1 == 3) = false := by simp [hn3]
          go_wp2
          go_meet
          case rel => exact ⟨by rw [hres], HRF⟩
        · subst h1
          have hb : ow = false := by rw [← HOW.out]; simp
          subst hb
          clear HA HNX HX7
          by_cases hk3 : x.f1 = 3
          · have HK := hid hk3
            clear hk3
            have hres : amtStep x cm 1 h kl gl n = wrap64 (n + G) := by rw [← HG.out]; simp [amtStep, HK.out]
            have j0 : ((1 : Int) == 0) = false := by decide
            have j1 : ((1 : Int) == 1) = true := by decide
            have j2 : ((1 : Int) == 2) = false := by decide
            have f1 : (x.f1 == 1) = false := by simp [HK.out]
            have f2 : (x.f1 == 2) = false := by simp [HK.out]
            have f3 : (x.f1 == 3) = true := by simp [HK.out]
            have f4 : (x.f1 == 4) = false := by simp [HK.out]
            have f5 : (x.f1 == 5) = false := by simp [HK.out]
            go_wp2
            go_meet
            case rel => exact ⟨by rw [hres], HRF⟩
          by_cases hk4 : x.f1 = 4
          · have HK := hid hk4
            clear hk4
            have hres : amtStep x cm 1 h kl gl n = wrap64 (n - G) := by rw [← HG.out]; simp [amtStep, HK.out]
            have j0 : ((1 : Int) == 0) = false := by decide
            have j1 : ((1 : Int) == 1) = true := by decide
            have j2 : ((1 : Int) == 2) = false := by decide
            have f1 : (x.f1 == 1) = false := by simp [HK.out]
            have f2 : (x.f1 == 2) = false := by simp [HK.out]
            have f3 : (x.f1 == 3) = false := by simp [HK.out]
            have f4 : (x.f1 == 4) = true := by simp [HK.out]
            have f5 : (x.f1 == 5) = false := by simp [HK.out]
            go_wp2
            go_meet
            case rel => exact ⟨by rw [hres], HRF⟩
          by_cases hk5 : x.f1 = 5
          · have HK := hid hk5
            clear hk5
            have hres : amtStep x cm 1 h kl gl n = wrap64 (n - G) := by rw [← HG.out]; simp [amtStep, HK.out]
            have j0 : ((1 : Int) == 0) = false := by decide
            have j1 : ((1 : Int) == 1) = true := by decide
            have j2 : ((1 : Int) == 2) = false := by decide
            have f1 : (x.f1 == 1) = false := by simp [HK.out]
            have f2 : (x.f1 == 2) = false := by simp [HK.out]
            have f3 : (x.f1 == 3) = false := by simp [HK.out]
            have f4 : (x.f1 == 4) = false := by simp [HK.out]
            have f5 : (x.f1 == 5) = true := by simp [HK.out]
            go_wp2
            go_meet
            case rel => exact ⟨by rw [hres], HRF⟩
          have hn3 := hk3
          have hn4 := hk4
          have hn5 := hk5
          clear hk3
          clear hk4
          clear hk5
          have hres : amtStep x cm 1 h kl gl n = n := by simp [amtStep, hn3, hn4, hn5]
          have j0 : ((1 : Int) == 0) = false := by decide
          have j1 : ((1 : Int) == 1) = true := by decide
          have j2 : ((1 : Int) == 2) = false := by decide
          have f3 : (x.f1 == 3) = false := by simp [hn3]
          have f4 : (x.f1 == 4) = false := by simp [hn4]
          have f5 : (x.f1 == 5) = false := by simp [hn5]
          go_wp2
          go_meet
          case rel => exact ⟨by rw [hres], HRF⟩
        · subst h1
          clear HA HNX HX7
          cases ow with
          | true =>
            have hc := of_decide_eq_true HOW.out
            have hres : amtStep x cm 2 h kl gl n = wrap64 (n + G) := by rw [← HG.out]; unfold amtStep; rw [if_pos (Or.inl hc)]
            have j0 : ((2 : Int) == 0) = false := by decide
            have j1 : ((2 : Int) == 1) = false := by decide
            have j2 : ((2 : Int) == 2) = true := by decide
            clear hc
            go_wp2
            go_meet
            case rel => exact ⟨by rw [hres], HRF⟩
          | false =>
            have hnc := of_decide_eq_false HOW.out
            by_cases hk2 : x.f1 = 2
            · have HK := hid hk2
              clear hk2
              by_cases ho2 : x.f2 = h
              · have b1 : (x.f2 == h) = true := by simp [ho2]
                have hres : amtStep x cm 2 h kl gl n = wrap64 (n - G) := by rw [← HG.out]; simp [amtStep, HK.out, ho2]
                have j0 : ((2 : Int) == 0) = false := by decide
                have j1 : ((2 : Int) == 1) = false := by decide
                have j2 : ((2 : Int) == 2) = true := by decide
                have f1 : (x.f1 == 1) = false := by simp [HK.out]
                have f2 : (x.f1 == 2) = true := by simp [HK.out]
                have f3 : (x.f1 == 3) = false := by simp [HK.out]
                have f4 : (x.f1 == 4) = false := by simp [HK.out]
                have f5 : (x.f1 == 5) = false := by simp [HK.out]
                clear ho2
                go_wp2
                go_meet
                case rel => exact ⟨by rw [hres], HRF⟩
              · have b1 : (x.f2 == h) = false := by simp [ho2]
                have hres : amtStep x cm 2 h kl gl n = n := by simp [amtStep, HK.out, ho2]
                have j0 : ((2 : Int) == 0) = false := by decide
                have j1 : ((2 : Int) == 1) = false := by decide
                have j2 : ((2 : Int) == 2) = true := by decide
                have f1 : (x.f1 == 1) = false := by simp [HK.out]
                have f2 : (x.f1 == 2) = true := by simp [HK.out]
                have f3 : (x.f1 == 3) = false := by simp [HK.out]
                have f4 : (x.f1 == 4) = false := by simp [HK.out]
                have f5 : (x.f1 == 5) = false := by simp [HK.out]
                clear ho2
                go_wp2
                go_meet
                case rel => exact ⟨by rw [hres], HRF⟩
            have hres : amtStep x cm 2 h kl gl n = n := by unfold amtStep; rw [if_neg (by rintro (h1 | h1); exact hnc h1; omega), if_neg (by omega), if_neg (by omega)]
            have f2 : (x.f1 == 2) = false := by simp [hk2]
            have j0 : ((2 : Int) == 0) = false := by decide
            have j1 : ((2 : Int) == 1) = false := by decide
            have j2 : ((2 : Int) == 2) = true := by decide
            clear hnc hk2
            go_wp2
            go_meet
            case rel => exact ⟨by rw [hres], HRF⟩
      case rest =>
      obtain ⟨rfl, hcb⟩ := hcut
      rw [← HNX.out]
      have HE15c := hid (heap_grow HE15b.out hcb.out)
      have HX8 := hid (HX7.out.grow hcb.out)
      clear hcb y1 y2 r2 b1 HE15b HX7 HOW
      clear W6
      rename World => W6
      obtain ⟨n1, hn1⟩ : ∃ q, amtT first t l k h (j + 1) = q := ⟨_, rfl⟩
      rw [hn1]
      have HN1 := hid hn1
      clear hn1 HNX
      obtain ⟨cm1, hcm1⟩ : ∃ q, cnt isHeap (l.take (j + 1)) = q := ⟨_, rfl⟩
      rw [hcm1] at HCN
      have HC1 := hid hcm1
      clear hcm1
      have y1 := blkCell HE15c.out 1
      simp at y1
      go_upto_region 18 with fail
      go_cut [135] from 128 to 134 (fun v135 wc => v135 = .bool (isHeap x) ∧ Hid (Below W6.heap.size W6 wc))
      case first =>
        have HRF := hid (Below.refl W6.heap.size W6)
        by_cases x1 : x.f1 = 1
        · have f1 : (x.f1 == 1) = true := by simp [x1]
          have hb : isHeap x = true := by unfold isHeap; simp [x1]
          clear x1
          go_wp2
          go_meet
          case rel => exact ⟨by rw [hb], HRF⟩
        · have f1 : (x.f1 == 1) = false := by simp [x1]
          by_cases x5 : x.f1 = 5
          · have f5 : (x.f1 == 5) = true := by simp [x5]
            have hb : isHeap x = true := by unfold isHeap; simp [x5]
            clear x1 x5
            go_wp2
            go_meet
            case rel => exact ⟨by rw [hb], HRF⟩
          · have f5 : (x.f1 == 5) = false := by simp [x5]
            have hb : isHeap x = false := by unfold isHeap; simp [x1, x5]
            clear x1 x5
            go_wp2
            go_meet
            case rel => exact ⟨by rw [hb], HRF⟩
      case rest =>
      obtain ⟨rfl, hcb⟩ := hcut
      have HX9 := hid (HX8.out.grow hcb.out)
      clear hcb y1 HX8 HE15c
      clear W6
      rename World => W6
      go_upto_if 135 with fail
      go_cut [13] from 135 to 137 (fun v13 wc => v13 = .int .i64 (cm1 : Nat) ∧ Hid (Below W6.heap.size W6 wc))
      case first =>
        have HRF := hid (Below.refl W6.heap.size W6)
        have hcm2 : cmN ≤ 256 := by
          have h1 := cnt_take_le isHeap l (j + 1)
          have h2 : cnt isHeap l ≤ l.length := List.countP_le_length
          have h3 := HCN.out
          have h4 := HC1.out
          have h5 := HC.out.2
          split at h3 <;> omega
        cases hb : isHeap x with
        | true =>
          have h3 := HCN.out
          rw [if_pos hb] at h3
          have hw : wrap64 (cm + 1) = (cm1 : Int) := by rw [← HCI.out, wrap64_id (by omega) (by omega)]; omega
          clear hb h3
          go_wp2
          go_meet
          case rel => exact ⟨by first | rfl | rw [hw], HRF⟩
        | false =>
          have h3 := HCN.out
          rw [if_neg (by rw [hb]; decide)] at h3
          have hw : cm = (cm1 : Int) := by rw [← HCI.out]; omega
          clear hb h3
          go_wp2
          go_meet
          case rel => exact ⟨by rw [hw], HRF⟩
      case rest =>
      obtain ⟨rfl, hcb⟩ := hcut
      have HX10 := hid (HX9.out.grow hcb.out)
      clear hcb HX9
      clear W6
      rename World => W6
      go_wp2_with (at_builtin; refine Hid.out ?_)
      refine hid ?_
      have hgr := (Below.refl W6.heap.size W6).alloc (Nat.le_refl _) (.cells #[.int .i64 n1] 3)
      have hnew := World.alloc_heap_new W6 (.cells #[.int .i64 n1] 3)
      have hK7 := HX10.out.grow hgr
      have hs7 : w.heap.size + 1 + 1 ≤ (W6.alloc (.cells #[.int .i64 n1] 3)).heap.size := by have := cell_lt (blkCell hK7.bt 0); omega
      generalize W6.alloc (.cells #[.int .i64 n1] 3) = W7 at *
      generalize W6.heap.size = B6 at *
      have hol : ((List.range (j + 1)).map (amtT first t l k h)).length = j + 1 := by simp
      obtain ⟨out, hout⟩ : ∃ out, (List.range (j + 1)).map (amtT first t l k h) = out := ⟨_, rfl⟩
      rw [hout] at hK7 hol HX10
      obtain ⟨i0, hi, hz0, hz1, hz2⟩ := info3'
      refine wpList_append_own W7 rfl _ _ 45 rfl (w.heap.size + 1 + 1) 3 i0 _ 1 8 Tryz.underlying45 hi hz0 hz1 hz2 rfl (by decide) vo out.length (cF out) rfl hK7.row ⟨B6, 0, none⟩ 1 1 [.int .i64 n1] rfl rfl (row_cells hnew) (by simp [Value.oneCell']) (by have := HC.out.2; have := HLT.out; unfold maxLen; omega) (by have := HC.out.2; have := HLT.out; omega) hs7 ?_
      intro v' W8 hown' hgrow _
      have HF0 := hid (hK7.add n1 hown' hgrow)
      have HF1 := hid (show TI w ho fi (some ad) c l (.slice (some ⟨gk, 0, none⟩) l.length ck) (.slice (some ⟨gg, 0, none⟩) l.length cg) vr vs v' ((List.range (j + 1 + 1)).map (amtT first t l k h)) W8 by
        rw [amt_range, hout, HN1.out]; exact HF0.out)
      clear hgr hnew hK7 hs7 hi hz0 hz1 hz2 hown' hgrow HX10 hout HF0 hol
      have hl2 := HC.out.2
      have hj2 := HLT.out
      go_wp2
      go_roundw
      case rel => exact ⟨j + 1, by have := HLT.out; omega, by go_num, by rw [HC1.out], by rw [HN1.out], _, rfl, HF1⟩
      case measure => have := HLT.out; simp [intOf]; omega
    · obtain rfl : j = l.length := by omega
      have HF := hid HX.out
      have hjl : ¬ (l.length : Int) < (l.length : Int) := by omega
      clear HX
      go_wp2
      refine bodyPost_ret (v := vo) (by simp [results, Tryz.results21, go_sem]) rfl ?_
      have hrow := HF.out.row
      rw [List.length_map, List.length_range] at hrow
      exact ⟨_, rfl, own_lower (by omega) hrow, HF.out.be⟩
end Go.Proofs.YtbmkbokkmmdjdaaGreat
end
section
namespace Go.Proofs.YtbmkbokkmmdjdaaGreat
open Go.RowKit Go.Proofs.YtbmkbokkmmdjdaaGreatW.PrintWords Go.Proofs.YtbmkbokkmmdjdaaGreatW.PrintLast Go.Proofs.YtbmkbokkmmdjdaaGreatW.PrintMore
open Q Go.Shelf
set_option linter.unusedVariables false
set_option linter.unusedSimpArgs false
structure PR (m : Int) (p : S88) : Prop where
  g0 : 0 ≤ p.f0.f0
  g1 : p.f0.f0 ≤ p.f0.f1
  g2 : p.f0.f1 ≤ m
  r0 : 0 ≤ p.f1.f0
  r1 : p.f1.f0 ≤ p.f1.f1
  r2 : p.f1.f1 ≤ m
  rg : p.f1.f0 ≤ p.f0.f1
structure HR1 (h : S101) : Prop where
  r0 : 0 ≤ h.f1.f0
  r1 : h.f1.f0 ≤ h.f1.f1
  r2 : h.f1.f1 ≤ 1000
  ok : HOk h
theorem PR.z {m : Int} (h : 0 ≤ m) : PR m z88 := ⟨Int.le_refl _, Int.le_refl _, h, Int.le_refl _, Int.le_refl _, h, Int.le_refl _⟩
theorem PR.up {m n : Int} {p : S88} (h : PR m p) (hn : m ≤ n) : PR n p := ⟨h.g0, h.g1, Int.le_trans h.g2 hn, h.r0, h.r1, Int.le_trans h.r2 hn, h.rg⟩
theorem share_sp {m : Int} {p : S88} (h : PR m p) (hm : m ≤ 1000000000000) : 0 ≤ (shareS p).f0 ∧ (shareS p).f0 ≤ (shareS p).f1 ∧ (shareS p).f1 ≤ 1000 := by
  have a1 := h.g0; have a2 := h.g1; have a3 := h.g2; have a4 := h.r0; have a5 := h.r1; have a6 := h.r2; have a7 := h.rg
  show 0 ≤ shareLo p ∧ shareLo p ≤ shareHi p ∧ shareHi p ≤ 1000
  have hlo : 0 ≤ shareLo p ∧ shareLo p ≤ 1000 ∧ (0 < p.f0.f1 → shareLo p = 1000 * p.f1.f0 / p.f0.f1) := by
    unfold shareLo
    by_cases hg : 0 < p.f0.f1
    · rw [if_pos hg]
      generalize p.f1.f0 = R at *
      generalize p.f0.f1 = G at *
      rw [wrap64_id (n := 1000 * R) (by omega) (by omega), Int.tdiv_eq_ediv_of_nonneg (by omega)]
      have q1 : 0 ≤ 1000 * R / G := Int.ediv_nonneg (by omega) (by omega)
      have q2 : 1000 * R / G ≤ 1000 := Int.ediv_le_of_le_mul hg (by omega)
      rw [wrap64_id (by omega) (by omega)]
      exact ⟨q1, q2, fun _ => rfl⟩
    · rw [if_neg hg]; exact ⟨Int.le_refl _, by decide, fun h => absurd h hg⟩
  unfold shareHi
  by_cases hg : 0 < p.f0.f0
  · rw [if_pos hg]
    have hq : shareLo p ≤ shareQ p := by
      rw [hlo.2.2 (by omega)]
      unfold shareQ
      generalize p.f1.f0 = R at *
      generalize p.f1.f1 = S at *
      generalize p.f0.f1 = G at *
      generalize p.f0.f0 = F at *
      clear hlo
      rw [wrap64_id (n := 1000 * S) (by omega) (by omega), wrap64_id (n := 1000 * S + F) (by omega) (by omega), wrap64_id (n := 1000 * S + F - 1) (by omega) (by omega), Int.tdiv_eq_ediv_of_nonneg (by omega)]
      have q0 : 0 ≤ 1000 * R / G := Int.ediv_nonneg (by omega) (by omega)
      have e1 : 1000 * R / G * G ≤ 1000 * R := Int.ediv_mul_le _ (by omega)
      have e2 : 1000 * R / G * F ≤ 1000 * R / G * G := Int.mul_le_mul_of_nonneg_left a2 q0
      have e3 : 1000 * R / G ≤ (1000 * S + F - 1) / F := (Int.le_ediv_iff_mul_le hg).2 (by omega)
      have e4 : (1000 * S + F - 1) / F ≤ 1000 * S + F - 1 := Int.ediv_le_self _ (by omega)
      have e5 : 0 ≤ (1000 * S + F - 1) / F := Int.ediv_nonneg (by omega) (by omega)
      rw [wrap64_id (by omega) (by omega)]
      exact e3
    refine ⟨hlo.1, ?_, ?_⟩
    · rw [le_mn]; exact ⟨hlo.2.1, hq⟩
    · rw [mn_le]; exact Or.inl (Int.le_refl _)
  · rw [if_neg hg]; exact ⟨hlo.1, hlo.2.1, Int.le_refl _⟩
theorem charge_pr {m : Int} {p : S88} {k : S23} {h : S101} (hp : PR m p) (hm0 : 0 ≤ m) (hm : m ≤ 1000000000000) (hk : 0 ≤ k.f0 ∧ k.f0 ≤ k.f1 ∧ k.f1 ≤ 1000000) (hh : HR1 h) : PR (m + 1000000000) (chargeP p k h) := by
  obtain ⟨g1, g2, g3, g4⟩ := glassS_val hk ⟨hh.ok.l0, hh.ok.l1, hh.ok.l2⟩
  have c1 := hh.r0; have c2 := hh.r1; have c3 := hh.r2; have c4 := hh.ok.rl; have c5 := hh.ok.l0
  have t0 : 0 ≤ k.f0 * h.f1.f0 := Int.mul_nonneg hk.1 c1
  have t1 : k.f0 * h.f1.f0 ≤ k.f1 * h.f1.f1 := Int.mul_le_mul hk.2.1 c2 c1 (by omega)
  have t2 : k.f1 * h.f1.f1 ≤ 1000000 * 1000 := Int.mul_le_mul hk.2.2 c3 (by omega) (by omega)
  have t3 : k.f0 * h.f1.f0 ≤ k.f1 * (1000 - h.f2.f0) := Int.mul_le_mul hk.2.1 (by omega) c1 (by omega)
  have a1 := hp.g0; have a2 := hp.g1; have a3 := hp.g2; have a4 := hp.r0; have a5 := hp.r1; have a6 := hp.r2; have a7 := hp.rg
  have e1 : (chargeP p k h).f0 = ⟨p.f0.f0 + k.f0 * (1000 - h.f2.f1), p.f0.f1 + k.f1 * (1000 - h.f2.f0)⟩ := by
    show plusS p.f0 (glassS k h) = _
    rw [g1]
    unfold plusS
    simp only
    generalize k.f0 * (1000 - h.f2.f1) = u at *
    generalize k.f1 * (1000 - h.f2.f0) = v at *
    rw [wrap64_id (n := p.f0.f0 + u) (by omega) (by omega), wrap64_id (n := p.f0.f1 + v) (by omega) (by omega)]
  have e2 : (chargeP p k h).f1 = ⟨p.f1.f0 + k.f0 * h.f1.f0, p.f1.f1 + k.f1 * h.f1.f1⟩ := by
    show plusS p.f1 (timesS k h.f1) = _
    unfold plusS timesS
    simp only
    generalize k.f0 * h.f1.f0 = u at *
    generalize k.f1 * h.f1.f1 = v at *
    rw [wrap64_id (n := u) (by omega) (by omega), wrap64_id (n := v) (by omega) (by omega), wrap64_id (n := p.f1.f0 + u) (by omega) (by omega), wrap64_id (n := p.f1.f1 + v) (by omega) (by omega)]
  refine ⟨?_, ?_, ?_, ?_, ?_, ?_, ?_⟩
  all_goals first | rw [e1, e2] | rw [e1] | rw [e2]
  all_goals simp only
  all_goals omega
structure SR (m : Int) (s : KS) : Prop where
  hs : ∀ h ∈ s.hs, HR1 h
  ps : ∀ p ∈ s.ps, PR m p
theorem sr_step {m : Int} {s : KS} {x : S93} (h : SR m s) (hm0 : 0 ≤ m) (hm : m ≤ 1000000000000) (hk : 0 ≤ x.f4.f0 ∧ x.f4.f0 ≤ x.f4.f1 ∧ x.f4.f1 ≤ 1000000)
    (hin : x.f1 = 1 → 0 ≤ x.f5.f0 ∧ x.f5.f0 ≤ x.f5.f1 ∧ 0 ≤ x.f6.f0 ∧ x.f6.f0 ≤ x.f6.f1 ∧ x.f5.f1 + x.f6.f1 ≤ 1000) : SR (m + 1000000000) (stepK s x) := by
  have up : ∀ p ∈ s.ps, PR (m + 1000000000) p := fun p hp => (h.ps p hp).up (by omega)
  unfold stepK
  by_cases k1 : x.f1 = 1
  · rw [if_pos k1]
    have hi := hin k1
    refine ⟨fun q hq => ?_, up⟩
    rcases List.mem_append.1 hq with e | e
    · exact h.hs q e
    · simp at e; subst e
      exact ⟨hi.1, hi.2.1, show x.f5.f1 ≤ 1000 by omega, ⟨hi.1, show x.f5.f0 + x.f6.f0 ≤ 1000 by omega, hi.2.2.1, hi.2.2.2.1, show x.f6.f1 ≤ 1000 by omega⟩⟩
  rw [if_neg k1]
  by_cases k5 : x.f1 = 5
  · rw [if_pos k5]
    refine ⟨fun q hq => ?_, up⟩
    rcases List.mem_append.1 hq with e | e
    · exact h.hs q e
    · simp at e; subst e
      have hb : 0 ≤ (beforeK s).f0 ∧ (beforeK s).f0 ≤ (beforeK s).f1 ∧ (beforeK s).f1 ≤ 1000 := by
        unfold beforeK
        split
        · exact share_sp (getD_ok h.ps (PR.z hm0) _) hm
        · decide
      exact ⟨hb.1, hb.2.1, hb.2.2, ⟨hb.1, show (beforeK s).f0 + 0 ≤ 1000 by omega, Int.le_refl _, Int.le_refl _, show (0 : Int) ≤ 1000 by decide⟩⟩
  rw [if_neg k5]
  by_cases k2 : x.f1 = 2
  · rw [if_pos k2]
    exact ⟨h.hs, set_ok up (charge_pr (getD_ok h.ps (PR.z hm0) _) hm0 hm hk (getD_ok h.hs ⟨by decide, by decide, by decide, ⟨by decide, by decide, by decide, by decide, by decide⟩⟩ _))⟩
  rw [if_neg k2]
  by_cases k4 : x.f1 = 4
  · rw [if_pos k4]
    have hl : PR (m + 1000000000) s.last := getD_ok up (PR.z (by omega)) _
    exact ⟨h.hs, set_ok up ⟨hl.g0, hl.g1, hl.g2, hl.r0, hl.r1, hl.r2, hl.rg⟩⟩
  rw [if_neg k4]
  by_cases k6 : x.f1 = 6
  · rw [if_pos k6]
    refine ⟨h.hs, fun p hp => ?_⟩
    rcases List.mem_append.1 hp with e | e
    · exact up p e
    · simp at e; subst e; exact PR.z (by omega)
  rw [if_neg k6]
  by_cases k7 : x.f1 = 7
  · rw [if_pos k7]
    have hl : PR (m + 1000000000) (s.ps.getD (s.at x.f3).1.toNat z88) := getD_ok up (PR.z (by omega)) _
    exact ⟨h.hs, set_ok up ⟨hl.g0, hl.g1, hl.g2, hl.r0, hl.r1, hl.r2, hl.rg⟩⟩
  · rw [if_neg k7]
    exact ⟨h.hs, up⟩
theorem sr_take {ho fi : S23} {l : List S93} (hv : bookErr ho fi l = 0) : ∀ k, k ≤ l.length → SR (k * 1000000000) (keptOf (l.take k))
  | 0, _ => ⟨fun h hh => (by simp [keptOf] at hh), fun p hp => (by simp [keptOf] at hp; subst hp; exact PR.z (by decide))⟩
  | k + 1, hk => by
    have ih := sr_take hv k (by omega)
    have hl := (bookOk_of hv).len
    obtain ⟨p1, p2, p3, p4⟩ := post_in hv (show k < l.length by omega)
    rw [kept_take (by omega : k < l.length)]
    have := sr_step ih (by omega) (by omega) (kilos_all hv (show k < l.length by omega)) p3
    rwa [show ((k : Int) * 1000000000 + 1000000000) = ((k + 1 : Nat) : Int) * 1000000000 by omega] at this
theorem heap_sp {ho fi : S23} {l : List S93} (hv : bookErr ho fi l = 0) (j : Nat) : HR1 ((keptOf l).hs.getD j z101) := by
  have h := sr_take hv l.length (Nat.le_refl _)
  rw [List.take_length] at h
  exact getD_ok h.hs ⟨by decide, by decide, by decide, ⟨by decide, by decide, by decide, by decide, by decide⟩⟩ j
end Go.Proofs.YtbmkbokkmmdjdaaGreat
end
