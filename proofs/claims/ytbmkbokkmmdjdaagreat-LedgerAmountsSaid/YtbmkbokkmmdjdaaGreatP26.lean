-- J1 J2 QA (wip/pack9.py)
import Derived.Test.YtbmkbokkmmdjdaaGreatP25
section
namespace Go.Proofs.YtbmkbokkmmdjdaaGreat
open Go.RowKit Go.Proofs.YtbmkbokkmmdjdaaGreatW.PrintWords Go.Proofs.YtbmkbokkmmdjdaaGreatW.PrintLast Go.Proofs.YtbmkbokkmmdjdaaGreatW.PrintMore
open Q Go.Shelf
attribute [local go_sem] Oper.semAt_some wide_depth wide_fn max2_int min2_int max_two min_two
set_option linter.unusedVariables false
set_option linter.unusedSimpArgs false
theorem gramsR_any (s : S23) (w : World) : Calls Tryz.prog 70 #[.agg #[.int .i64 s.f0, .int .i64 s.f1]] w (RetSpan (gramsS s) w) := by
  have hu := Tryz.underlying23
  have HB := Below.refl w.heap.size w
  go_enter Tryz.func70, Tryz.ntmps70
  go_wp2
  refine bodyPost_ret (v := .agg #[.int .i64 (wrap64 (1000 * s.f0)), .int .i64 (wrap64 (1000 * s.f1))]) (by simp [results, Tryz.results70, go_sem, wrap_i]) rfl ⟨?_, ?_⟩
  · show _ = Ending.returned (.agg #[.int .i64 (wrap64 (s.f0 * 1000)), .int .i64 (wrap64 (s.f1 * 1000))])
    rw [Int.mul_comm s.f0 1000, Int.mul_comm s.f1 1000]
  · exact ((HB.alloc (Nat.le_refl _) _).alloc (by simp) _)
set_option maxRecDepth 100000 in
theorem meetR_any (a b : S23) (w : World) : Calls Tryz.prog 37 #[.agg #[.int .i64 a.f0, .int .i64 a.f1], .agg #[.int .i64 b.f0, .int .i64 b.f1]] w (RetSpan (meetS a b) w) := by
  have hu := Tryz.underlying23
  have HB := Below.refl w.heap.size w
  go_enter Tryz.func37, Tryz.ntmps37
  go_wp2
  all_goals
    refine bodyPost_ret (v := .agg #[.int .i64 (mx a.f0 b.f0), .int .i64 (mn a.f1 b.f1)]) (by simp [results, Tryz.results37, go_sem] <;> (unfold mx mn; refine ⟨?_, ?_⟩ <;> (split <;> omega))) rfl ⟨rfl, ?_⟩
    exact (((HB.alloc (Nat.le_refl _) _).alloc (by simp) _).alloc (by simp; omega) _)
def boundsS (ho : S23) (k : Int) : S23 := if k = 0 then gramsS ho else ⟨0, 1000000000000000⟩
set_option maxRecDepth 100000 in
theorem boundsR_any (ho fi : S23) (A : Option Addr) (c : Nat) (l : List S93) (k : Int) (w : World) : Calls Tryz.prog 35 #[.agg #[.int .i64 ho.f0, .int .i64 ho.f1, .int .i64 fi.f0, .int .i64 fi.f1, .slice A l.length c], .int .u8 k] w (RetSpan (boundsS ho k) w) := by
  have hu := Tryz.underlying23
  have hu1 := Tryz.underlying26
  have hbel := (((Below.refl w.heap.size w).alloc (Nat.le_refl _) (.cells #[.int .i64 ho.f0, .int .i64 ho.f1, .int .i64 fi.f0, .int .i64 fi.f1, .slice A l.length c] 26)).alloc (by simp) (.cells #[.int .i64 0, .int .i64 0] 23))
  have e0 := alloc_old (o' := .cells #[.int .i64 0, .int .i64 0] 23) (World.alloc_heap_new w (.cells #[.int .i64 ho.f0, .int .i64 ho.f1, .int .i64 fi.f0, .int .i64 fi.f1, .slice A l.length c] 26))
  have e1 := World.alloc_heap_new (w.alloc (.cells #[.int .i64 ho.f0, .int .i64 ho.f1, .int .i64 fi.f0, .int .i64 fi.f1, .slice A l.length c] 26)) (.cells #[.int .i64 0, .int .i64 0] 23)
  simp only [World.size_alloc] at e1
  unfold boundsS
  by_cases hk : k = 0
  · have d1 : (k == 0) = true := by simpa using hk
    rw [if_pos hk]
    clear hk
    go_enter Tryz.func35, Tryz.ntmps35
    go_upto_region 1 with fail
    generalize ((w.alloc (.cells #[.int .i64 ho.f0, .int .i64 ho.f1, .int .i64 fi.f0, .int .i64 fi.f1, .slice A l.length c] 26)).alloc (.cells #[.int .i64 0, .int .i64 0] 23)) = W1 at *
    have y0 := blkCell e0 0
    have y1 := blkCell e0 1
    simp at y0 y1
    go_wp2_with fail
    refine (gramsR_any ho W1).mono ?_
    rintro e W2 ⟨rfl, hb⟩
    have e1 := heap_grow e1 hb
    have HB2 := hid (hbel.trans (hb.mono hbel.size))
    have z0 := blkCell e1 0
    have z1 := blkCell e1 1
    have g0 := blkFrozen e1 0
    have g1 := blkFrozen e1 1
    simp at z0 z1
    have HE := hid e1
    generalize gramsS ho = g at *
    clear hb hbel e0 e1 y0 y1
    go_wp2
    have hz := st2_same HE.out (.int .i64 g.f0) (.int .i64 g.f1)
    have hb := st2_below HB2.out (show w.heap.size ≤ w.heap.size + 1 by omega) (.int .i64 g.f0) (.int .i64 g.f1)
    generalize ((W2.setCell ⟨w.heap.size + 1, 0, none⟩ (.int .i64 g.f0)).setCell ⟨w.heap.size + 1, 1, none⟩ (.int .i64 g.f1)) = w5 at *
    have q0 := blkCell hz 0
    have q1 := blkCell hz 1
    simp at q0 q1
    refine bodyPost_ret (v := .agg #[.int .i64 g.f0, .int .i64 g.f1]) (by simp [results, Tryz.results35, go_sem, q0, q1]) rfl ⟨rfl, hb⟩
  · have d1 : (k == 0) = false := by simpa using hk
    rw [if_neg hk]
    clear hk
    go_enter Tryz.func35, Tryz.ntmps35
    go_wp2
    refine bodyPost_ret (v := .agg #[.int .i64 0, .int .i64 1000000000000000]) (by simp [results, Tryz.results35, go_sem]) rfl ⟨rfl, ?_⟩
    exact ((Below.refl w.heap.size w).alloc (Nat.le_refl _) _).alloc (by simp) _
end Go.Proofs.YtbmkbokkmmdjdaaGreat
end
section
namespace Go.Proofs.YtbmkbokkmmdjdaaGreat
open Go.RowKit Go.Proofs.YtbmkbokkmmdjdaaGreatW.PrintWords Go.Proofs.YtbmkbokkmmdjdaaGreatW.PrintLast Go.Proofs.YtbmkbokkmmdjdaaGreatW.PrintMore
open Q Go.Shelf
attribute [local go_sem] Oper.semAt_some wide_depth wide_fn
set_option linter.unusedVariables false
set_option linter.unusedSimpArgs false

set_option maxRecDepth 100000 in
set_option maxHeartbeats 8000000 in
set_option pp.deepTerms true in
set_option pp.maxSteps 1000000 in
theorem changeR_any (hs : List S101) (vh : Value) (A : Option Addr) (c : Nat) (l : List S93) (i : Nat) (k h : Int) (w : World) (hr : Kd.C k93 w A l.length l) (hc : l.length ≤ c) (hl : l.length ≤ 1000000) (hi : i < l.length)
    (hrh : w.ownsRow 0 101 6 vh hs.length (hF hs)) (hx2 : ∀ x, l[i] = x → x.f1 = 2 → 0 ≤ x.f2 ∧ x.f2 < hs.length) (ha : (k = 0 ∧ h = 0) ∨ (k = 1 ∧ h = 0) ∨ k = 2) :
    Calls Tryz.prog 36 #[vh, .slice A l.length c, .int .i64 i, .int .u8 k, .int .i64 h] w (RetSpan (chgX l[i] (cnt isHeap (l.take i) : Nat) hs (k, h)) w) := by
  have hu := Tryz.underlying93
  have hu3 := Tryz.underlying101
  have hu6 := Tryz.underlying23
  have HB := Below.refl w.heap.size w
  obtain ⟨x, hx⟩ : ∃ x, l[i] = x := ⟨_, rfl⟩
  have HX2 := hid (hx2 x hx)
  have HA := hid ha
  clear hx2 ha
  rw [hx]
  obtain ⟨cm, hcm⟩ : ∃ cm, cnt isHeap (l.take i) = cm := ⟨_, rfl⟩
  rw [hcm]
  have hb1 := HB.alloc (Nat.le_refl _) (.cells #[.int .i64 0, .int .i64 0] 23)
  have e0 := World.alloc_heap_new w (.cells #[.int .i64 0, .int .i64 0] 23)
  have hs1 : (w.alloc (.cells #[.int .i64 0, .int .i64 0] 23)).heap.size = w.heap.size + 1 := by simp
  have HRH := hid hrh
  have HCM := hid hcm
  have HR1 := hid hr
  clear hrh hcm HB hr
  have hil : (i : Int) < (l.length : Int) := by omega
  obtain ⟨ad, rfl⟩ : ∃ ad, A = some ad := by
    have hcc := at_T93 HR1.out i (by omega) (by omega)
    obtain ⟨ad, rfl, _⟩ := hcc
    exact ⟨ad, rfl⟩
  go_enter Tryz.func36, Tryz.ntmps36
  go_upto_region 1 with fail
  generalize (w.alloc (.cells #[.int .i64 0, .int .i64 0] 23)) = W1 at *
  have hcc := at_T93 (Kd.C_below HR1.out hb1) i (by omega) (by omega)
  rw [rdP hi, hx] at hcc
  simp only [Int.toNat_natCast] at hcc
  obtain ⟨ad', had, k0, k1, k2, k3, k4, k5, k6, k7, k8, k9, k10⟩ := hcc
  cases had
  have hbel := hid (hb1.alloc (by rw [hs1]; omega) (.cells #[.int .i64 x.f0, .int .u8 x.f1, .int .i64 x.f2, .int .i64 x.f3, .int .i64 x.f4.f0, .int .i64 x.f4.f1, .int .i64 x.f5.f0, .int .i64 x.f5.f1, .int .i64 x.f6.f0, .int .i64 x.f6.f1, .int .i64 x.f7] 93))
  have e0 := alloc_old (o' := (.cells #[.int .i64 x.f0, .int .u8 x.f1, .int .i64 x.f2, .int .i64 x.f3, .int .i64 x.f4.f0, .int .i64 x.f4.f1, .int .i64 x.f5.f0, .int .i64 x.f5.f1, .int .i64 x.f6.f0, .int .i64 x.f6.f1, .int .i64 x.f7] 93)) e0
  have e1 := World.alloc_heap_new W1 (.cells #[.int .i64 x.f0, .int .u8 x.f1, .int .i64 x.f2, .int .i64 x.f3, .int .i64 x.f4.f0, .int .i64 x.f4.f1, .int .i64 x.f5.f0, .int .i64 x.f5.f1, .int .i64 x.f6.f0, .int .i64 x.f6.f1, .int .i64 x.f7] 93)
  have e1' := hid e1
  have e0' := hid e0
  rw [hs1] at e1'
  have HR0 := HR1
  have HS1 := hid hs1
  have HLC := hid (And.intro hc hl)
  clear e1 e0 hs1 hb1 hc hl
  go_upto_region 2 with fail
  clear k0 k1 k2 k3 k4 k5 k6 k7 k8 k9 k10
  have HX := hid hx
  clear hx
  have hbs : W1.heap.size = w.heap.size + 1 := HS1.out
  try simp only [hbs]
  generalize W1.alloc (.cells #[.int .i64 x.f0, .int .u8 x.f1, .int .i64 x.f2, .int .i64 x.f3, .int .i64 x.f4.f0, .int .i64 x.f4.f1, .int .i64 x.f5.f0, .int .i64 x.f5.f1, .int .i64 x.f6.f0, .int .i64 x.f6.f1, .int .i64 x.f7] 93) = W2 at *
  have HE0 := e0'
  have HE1 := e1'
  clear e0' e1' hbs
  have y4 := blkCell HE1.out 4
  have y5 := blkCell HE1.out 5
  simp at y4 y5
  go_wp2_with fail
  refine (gramsR_any x.f4 W2).mono ?_
  rintro e W3 ⟨rfl, hb⟩
  have HE0' := hid (heap_grow HE0.out hb)
  have HE1' := hid (heap_grow HE1.out hb)
  have HB3 := hid (hbel.out.trans (hb.mono hbel.out.size))
  clear hb HE0 HE1 hbel y4 y5
  obtain ⟨g, hg⟩ : ∃ g, gramsS x.f4 = g := ⟨_, rfl⟩
  rw [hg]
  have HG := hid hg
  clear hg
  have hs3 : w.heap.size + 1 + 1 ≤ W3.heap.size := by have := cell_lt (blkCell HE1'.out 0); omega
  have HS3 := hid hs3
  have HB4a := hid (HB3.out.alloc (show w.heap.size ≤ W3.heap.size by omega) (.cells #[.int .i64 g.f0, .int .i64 g.f1] 23))
  have HE0a := hid (alloc_old (o' := (.cells #[.int .i64 g.f0, .int .i64 g.f1] 23)) HE0'.out)
  have HE1a := hid (alloc_old (o' := (.cells #[.int .i64 g.f0, .int .i64 g.f1] 23)) HE1'.out)
  have M0 := hid (World.alloc_heap_new W3 (.cells #[.int .i64 g.f0, .int .i64 g.f1] 23))
  have hsz : Hid ((W3.alloc (.cells #[.int .i64 g.f0, .int .i64 g.f1] 23)).heap.size = W3.heap.size + 1) := hid (by simp)
  clear HB3 HE0' HE1' hs3
  go_upto_region 3 with fail
  generalize W3.alloc (.cells #[.int .i64 g.f0, .int .i64 g.f1] 23) = W3a at *
  generalize W3.heap.size = B12 at *
  have y0 := blkCell M0.out 0
  have y1 := blkCell M0.out 1
  simp at y0 y1
  have HS4 := hid (show w.heap.size ≤ W3a.heap.size by have := hsz.out; have := HS3.out; omega)
  go_upto_region 4 with fail
  try simp only [wrap_i] at *
  have m1 := World.alloc_heap_new W3a (.cells #[.int .i64 (wrap64 (-g.f1)), .int .i64 (wrap64 (-g.f0))] 23)
  have m0 := alloc_old (o' := (.cells #[.int .i64 (wrap64 (-g.f1)), .int .i64 (wrap64 (-g.f0))] 23)) M0.out
  have HZ4' := hid (alloc_old (o' := (.cells #[.int .i64 (wrap64 (-g.f1)), .int .i64 (wrap64 (-g.f0))] 23)) HE0a.out)
  have HX4' := hid (alloc_old (o' := (.cells #[.int .i64 (wrap64 (-g.f1)), .int .i64 (wrap64 (-g.f0))] 23)) HE1a.out)
  have HB4' := hid (HB4a.out.alloc HS4.out (.cells #[.int .i64 (wrap64 (-g.f1)), .int .i64 (wrap64 (-g.f0))] 23))
  clear HE0a HE1a HB4a M0 y0 y1
  have hsz2 := hsz.out
  try simp only [hsz2] at *
  generalize (W3a.alloc (.cells #[.int .i64 (wrap64 (-g.f1)), .int .i64 (wrap64 (-g.f0))] 23)) = W5 at *
  generalize W3a.heap.size = B13 at *
  clear hsz2
  obtain ⟨m, hm⟩ : ∃ m, minusS g = m := ⟨_, rfl⟩
  have hm0 : wrap64 (-g.f1) = m.f0 := by rw [← hm]; rfl
  have hm1 : wrap64 (-g.f0) = m.f1 := by rw [← hm]; rfl
  rw [hm0, hm1] at m1
  have HM := hid hm
  clear hm hm0 hm1
  have hic : i ≤ c := by have := HLC.out; omega
  have hic2 : (i : Int) ≤ (c : Int) := by omega
  have hli : (l.take i).length = i := List.length_take_of_le (by omega)
  have hh := heapsR_any (some ad) c (l.take i) W5 (Kd.C_take (m := i) (Kd.C_below HR0.out HB4'.out) (by omega)) (by rw [hli]; exact hic) (by rw [hli]; have := HLC.out; omega)
  rw [hli, HCM.out] at hh
  have HH := hid hh
  clear hh hli
  go_wp2_with fail
  refine HH.out.mono ?_
  rintro e W4 ⟨rfl, hb⟩
  have HZ4 := hid (heap_grow HZ4'.out hb)
  have HX4 := hid (heap_grow HX4'.out hb)
  have HB4 := hid (HB4'.out.trans (hb.mono HB4'.out.size))
  have HM0 := hid (heap_grow m0 hb)
  have HM1 := hid (heap_grow m1 hb)
  clear hb HZ4' HX4' HB4' m0 m1
  have y1 := blkCell HX4.out 1
  have y2 := blkCell HX4.out 2
  simp at y1 y2
  clear hsz HS4 HS3 HH hic hic2
  rcases HA.out with ⟨h1, h2⟩ | ⟨h1, h2⟩ | h1
  · subst h1
    subst h2
    clear HA
    by_cases hk2 : x.f1 = 2
    · have HK := hid hk2
      clear hk2
      have hres : chgX x (cm : Nat) hs (0, 0) = glassS x.f4 (hs.getD x.f2.toNat z101) := by simp [chgX, HK.out]
      have j0 : ((0 : Int) == 0) = true := by decide
      have j1 : ((0 : Int) == 1) = false := by decide
      have j2 : ((0 : Int) == 2) = false := by decide
      have f1 : (x.f1 == 1) = false := by simp [HK.out]
      have f2 : (x.f1 == 2) = true := by simp [HK.out]
      have f3 : (x.f1 == 3) = false := by simp [HK.out]
      have f4 : (x.f1 == 4) = false := by simp [HK.out]
      have f5 : (x.f1 == 5) = false := by simp [HK.out]
      obtain ⟨hc0, hc1⟩ := HX2.out HK.out
      obtain ⟨jh, hjh⟩ : ∃ jh : Nat, x.f2 = jh := ⟨x.f2.toNat, by omega⟩
      have hjl : jh < hs.length := by omega
      obtain ⟨gh, gc2, hvh⟩ : ∃ gh gc2, vh = .slice (some ⟨gh, 0, none⟩) hs.length gc2 := by
        rcases HRH.out.2 with ⟨h1, h2⟩ | ⟨g1, c1, u1, h1, _⟩
        · omega
        · exact ⟨g1, c1, h1⟩
      subst hvh
      obtain ⟨hh, hhh⟩ : ∃ hh, hs.getD jh z101 = hh := ⟨_, rfl⟩
      rw [hjh, Int.toNat_natCast, hhh] at hres
      have HRS := hid hres
      have HHR := hid (And.intro (rings_set HRH.out HB4.out) (And.intro hjl hhh))
      have HJH := hid hjh
      clear hc0 hc1 hjh hhh hres HX2
      have hjl2 : (jh : Int) < (hs.length : Int) := by omega
      have hld : decide ((jh : Int) < (hs.length : Int)) = true := decide_eq_true hjl2
      rw [HJH.out] at y2
      go_upto_region 6 with fail
      clear y1 y2
      refine wp_flow11 [[], [], [1], [0, 2, 1], [3, 0, 2, 1], [], [5], [4, 3, 0, 2, 1, 6, 5], [7, 4, 3, 0, 2, 1, 6, 5], [8, 7, 4, 3, 0, 2, 1, 6, 5], [8, 7, 4, 3, 0, 2, 1, 6, 5], [8, 7, 4, 3, 0, 2, 1, 6, 5], [], [], [], [12, 9, 8, 7, 4, 3, 0, 2, 1, 6, 5, 13, 14], [13, 10, 8, 7, 4, 3, 0, 2, 1, 6, 5, 15, 12, 9, 14], [14, 11, 8, 7, 4, 3, 0, 2, 1, 6, 5, 16, 13, 10, 15, 12, 9]] 18 [(12, some 15), (13, some 16), (14, some 17), (15, none), (16, none), (17, none)]
        (fun g V => Below W4.heap.size W4 V ∧ BoxF W4.heap.size 23 [12, 13, 14] (fun e => e + 3) #[.int .i64 0, .int .i64 0] (fun e => if e = 12 then #[.int .i64 (glassS x.f4 hh).f0, .int .i64 (glassS x.f4 hh).f1] else if e = 13 then #[.int .i64 (timesS x.f4 hh.f1).f0, .int .i64 (timesS x.f4 hh.f1).f1] else #[.int .i64 (timesS x.f4 hh.f2).f0, .int .i64 (timesS x.f4 hh.f2).f1]) g V)
        { tmps := #[.slice (some ⟨gh, 0, none⟩) hs.length gc2, .slice (some ad) l.length c, .int .i64 i, .int .u8 0, .int .i64 0, undef, undef, undef, undef, undef, .pointer (some ⟨w.heap.size, 0, none⟩), .pointer (some ⟨(w.heap.size + 1), 0, none⟩), .pointer (some ⟨B12, 0, none⟩), .pointer (some ⟨B12 + 1, 0, none⟩), .bool (((cm : Nat) : Int) == 0), undef, undef, undef, .slice (some ad) l.length c, .int .i64 i, .pointer (some (ad.add (i * 11))), .agg #[.int .i64 x.f0, .int .u8 x.f1, .int .i64 x.f2, .int .i64 x.f3, .int .i64 x.f4.f0, .int .i64 x.f4.f1, .int .i64 x.f5.f0, .int .i64 x.f5.f1, .int .i64 x.f6.f0, .int .i64 x.f6.f1, .int .i64 x.f7], .pointer (some ⟨w.heap.size + 1, 4, none⟩), .agg #[.int .i64 x.f4.f0, .int .i64 x.f4.f1], .agg #[.int .i64 g.f0, .int .i64 g.f1], .pointer (some ⟨B12, 1, none⟩), .int .i64 g.f1, .int .i64 (wrap64 (-g.f1)), .pointer (some ⟨B12, 0, none⟩), .int .i64 g.f0, .int .i64 (wrap64 (-g.f0)), .agg #[.int .i64 (wrap64 (-g.f1)), .int .i64 (wrap64 (-g.f0))], .slice (some ad) l.length c, .int .i64 i, .slice (some ad) i c, .int .i64 cm, .int .i64 0, .bool (((cm : Nat) : Int) == 0), .bool true, .int .u8 0, .bool true, .bool true, .pointer (some ⟨w.heap.size + 1, 1, none⟩), .int .u8 x.f1, .bool true, .bool true, .tuple #[.agg #[.int .i64 ((glassS x.f4 hh).f0), .int .i64 ((glassS x.f4 hh).f1)], .agg #[.int .i64 ((timesS x.f4 hh.f1).f0), .int .i64 ((timesS x.f4 hh.f1).f1)], .agg #[.int .i64 ((timesS x.f4 hh.f2).f0), .int .i64 ((timesS x.f4 hh.f2).f1)]], .slice (some ⟨gh, 0, none⟩) hs.length gc2, .pointer (some ⟨(w.heap.size + 1), 2, none⟩), .int .i64 ((jh : Int)), .pointer (some ⟨gh, jh * 6, none⟩), .agg #[.int .i64 hh.f0.f0, .int .i64 hh.f0.f1, .int .i64 hh.f1.f0, .int .i64 hh.f1.f1, .int .i64 hh.f2.f0, .int .i64 hh.f2.f1], .pointer (some ⟨(w.heap.size + 1), 4, none⟩), .agg #[.int .i64 x.f4.f0, .int .i64 x.f4.f1], .tuple #[.agg #[.int .i64 ((glassS x.f4 hh).f0), .int .i64 ((glassS x.f4 hh).f1)], .agg #[.int .i64 ((timesS x.f4 hh.f1).f0), .int .i64 ((timesS x.f4 hh.f1).f1)], .agg #[.int .i64 ((timesS x.f4 hh.f2).f0), .int .i64 ((timesS x.f4 hh.f2).f1)]], .agg #[.int .i64 ((glassS x.f4 hh).f0), .int .i64 ((glassS x.f4 hh).f1)], .agg #[.int .i64 ((timesS x.f4 hh.f1).f0), .int .i64 ((timesS x.f4 hh.f1).f1)], .agg #[.int .i64 ((timesS x.f4 hh.f2).f0), .int .i64 ((timesS x.f4 hh.f2).f1)], undef, undef, undef, undef, undef, undef, undef, undef, undef, undef, undef, undef, undef, undef, undef, undef, undef, undef, undef, undef, undef, undef, undef, undef, undef, undef, undef, undef, undef, undef, undef, undef, undef, undef, undef, undef, undef, undef, undef, undef, undef, undef, undef, undef, undef, undef, undef, undef, undef, undef, undef, undef, undef, undef, undef, undef, undef, undef, undef, undef, undef, undef, undef, undef, undef, undef], defers := [] }
        mixed (by kernel_rfl) rfl (by kernel_rfl) (by kernel_rfl) (by kernel_rfl) (Ahead.of4 15 18 46 58 rfl rfl (by kernel_rfl) rfl rfl rfl) ?_ rfl ?_ rfl ?_
      · exact ⟨(Below.refl _ _).drew, BoxF.nil _ _ _ _ _ _ _⟩
      · refine ⟨?_, ?_, ?_, ?_, ?_, ?_, ?_, ?_, ?_, ?_, ?_, ?_, ?_, ?_, ?_, ?_, ?_, ?_, trivial⟩
        · exact fun g hbe => FlowOp.val 47 _ rfl rfl fun V ⟨hB_, hX_⟩ => by go_simp
        · exact fun g hbe => FlowOp.val 48 _ rfl rfl fun V ⟨hB_, hX_⟩ => by go_simp
        · exact fun g hbe => FlowOp.val 49 _ rfl rfl fun V ⟨hB_, hX_⟩ => by have y2 := blkCell (heap_grow HX4.out hB_) 2; simp at y2; go_simp <;> exact HJH.out
        · exact fun g hbe => FlowOp.val 50 _ rfl rfl fun V ⟨hB_, hX_⟩ => by have hl2 := HHR.out.2.1; go_simp <;> exact fun hh => absurd hh (by omega)
        · exact fun g hbe => FlowOp.val 51 _ rfl rfl fun V ⟨hB_, hX_⟩ => by obtain ⟨q0, q1, q2, q3, q4, q5⟩ := heap_cells (rings_set HHR.out.1 hB_) HHR.out.2.1 HHR.out.2.2; go_simp
        · exact fun g hbe => FlowOp.val 52 _ rfl rfl fun V ⟨hB_, hX_⟩ => by go_simp
        · exact fun g hbe => FlowOp.val 53 _ rfl rfl fun V ⟨hB_, hX_⟩ => by have y4 := blkCell (heap_grow HX4.out hB_) 4; have y5 := blkCell (heap_grow HX4.out hB_) 5; simp at y4 y5; go_simp
        · intro g hbe
          refine FlowOp.call 54 (.tuple #[.agg #[.int .i64 ((glassS x.f4 hh).f0), .int .i64 ((glassS x.f4 hh).f1)], .agg #[.int .i64 ((timesS x.f4 hh.f1).f0), .int .i64 ((timesS x.f4 hh.f1).f1)], .agg #[.int .i64 ((timesS x.f4 hh.f2).f0), .int .i64 ((timesS x.f4 hh.f2).f1)]]) 67 #[.agg #[.int .i64 hh.f0.f0, .int .i64 hh.f0.f1, .int .i64 hh.f1.f0, .int .i64 hh.f1.f1, .int .i64 hh.f2.f0, .int .i64 hh.f2.f1], .agg #[.int .i64 x.f4.f0, .int .i64 x.f4.f1]] rfl rfl (fun V ⟨hB_, hX_⟩ => by go_simp) fun V ⟨hB_, hX_⟩ => ?_
          refine (chargeR_any hh x.f4 _).mono ?_
          rintro e w' ⟨rfl, hb⟩
          exact ⟨rfl, hB_.trans (hb.mono hB_.size), hX_.grow hb⟩
        · exact fun g hbe => FlowOp.val 46 _ rfl rfl fun V ⟨hB_, hX_⟩ => by go_simp
        · exact fun g hbe => FlowOp.val 55 _ rfl rfl fun V ⟨hB_, hX_⟩ => by go_simp
        · exact fun g hbe => FlowOp.val 56 _ rfl rfl fun V ⟨hB_, hX_⟩ => by go_simp
        · exact fun g hbe => FlowOp.val 57 _ rfl rfl fun V ⟨hB_, hX_⟩ => by go_simp
        · refine ⟨fun r => by rfl, fun r W hr hga hbe ⟨hB_, hX_⟩ => ?_⟩
          dsimp only [putE, Act.put]
          exact .inl ⟨.pointer (some ⟨W.heap.size, 0, none⟩), W.alloc (.cells #[.int .i64 0, .int .i64 0] 23), by go_simp, hB_.alloc hB_.size _, hX_.alloc hB_.size (by simp) (hbe (15, none) (by simp) (by decide)) (by decide)⟩
        · refine ⟨fun r => by rfl, fun r W hr hga hbe ⟨hB_, hX_⟩ => ?_⟩
          dsimp only [putE, Act.put]
          exact .inl ⟨.pointer (some ⟨W.heap.size, 0, none⟩), W.alloc (.cells #[.int .i64 0, .int .i64 0] 23), by go_simp, hB_.alloc hB_.size _, hX_.alloc hB_.size (by simp) (hbe (16, none) (by simp) (by decide)) (by decide)⟩
        · refine ⟨fun r => by rfl, fun r W hr hga hbe ⟨hB_, hX_⟩ => ?_⟩
          dsimp only [putE, Act.put]
          exact .inl ⟨.pointer (some ⟨W.heap.size, 0, none⟩), W.alloc (.cells #[.int .i64 0, .int .i64 0] 23), by go_simp, hB_.alloc hB_.size _, hX_.alloc hB_.size (by simp) (hbe (17, none) (by simp) (by decide)) (by decide)⟩
        · refine ⟨fun r => by rfl, fun r W hr hga hbe ⟨hB_, hX_⟩ => ?_⟩
          dsimp only [putE, Act.put]
          obtain ⟨u, hu⟩ := hga (12, some 15) (by simp) (by decide)
          simp only at hu
          obtain ⟨b, rfl, hbB, hbx⟩ := hX_.at_ 12 (by simp) u hu
          simp only [hr, Option.isSome_none, Bool.false_eq_true, if_false] at hbx
          have z0 := blkCell hbx 0
          have z1 := blkCell hbx 1
          have g0 := blkFrozen hbx 0
          have g1 := blkFrozen hbx 1
          simp at z0 z1
          exact .inr ⟨(W.setCell ⟨b, 0, none⟩ (.int .i64 (glassS x.f4 hh).f0)).setCell ⟨b, 1, none⟩ (.int .i64 (glassS x.f4 hh).f1), rfl, by rw [hu]; go_simp, st2_below hB_ hbB _ _, hX_.store (e := 12) (b := b) (by simp) rfl (by simp) (by simp) hr hu rfl undef⟩
        · refine ⟨fun r => by rfl, fun r W hr hga hbe ⟨hB_, hX_⟩ => ?_⟩
          dsimp only [putE, Act.put]
          obtain ⟨u, hu⟩ := hga (13, some 16) (by simp) (by decide)
          simp only at hu
          obtain ⟨b, rfl, hbB, hbx⟩ := hX_.at_ 13 (by simp) u hu
          simp only [hr, Option.isSome_none, Bool.false_eq_true, if_false] at hbx
          have z0 := blkCell hbx 0
          have z1 := blkCell hbx 1
          have g0 := blkFrozen hbx 0
          have g1 := blkFrozen hbx 1
          simp at z0 z1
          exact .inr ⟨(W.setCell ⟨b, 0, none⟩ (.int .i64 (timesS x.f4 hh.f1).f0)).setCell ⟨b, 1, none⟩ (.int .i64 (timesS x.f4 hh.f1).f1), rfl, by rw [hu]; go_simp, st2_below hB_ hbB _ _, hX_.store (e := 13) (b := b) (by simp) rfl (by simp) (by simp) hr hu rfl undef⟩
        · refine ⟨fun r => by rfl, fun r W hr hga hbe ⟨hB_, hX_⟩ => ?_⟩
          dsimp only [putE, Act.put]
          obtain ⟨u, hu⟩ := hga (14, some 17) (by simp) (by decide)
          simp only at hu
          obtain ⟨b, rfl, hbB, hbx⟩ := hX_.at_ 14 (by simp) u hu
          simp only [hr, Option.isSome_none, Bool.false_eq_true, if_false] at hbx
          have z0 := blkCell hbx 0
          have z1 := blkCell hbx 1
          have g0 := blkFrozen hbx 0
          have g1 := blkFrozen hbx 1
          simp at z0 z1
          exact .inr ⟨(W.setCell ⟨b, 0, none⟩ (.int .i64 (timesS x.f4 hh.f2).f0)).setCell ⟨b, 1, none⟩ (.int .i64 (timesS x.f4 hh.f2).f1), rfl, by rw [hu]; go_simp, st2_below hB_ hbB _ _, hX_.store (e := 14) (b := b) (by simp) rfl (by simp) (by simp) hr hu rfl undef⟩
      · rintro r V ⟨hB_, hX_⟩ hall
        obtain ⟨u12, h12⟩ := hall (12, some 15) (by simp)
        obtain ⟨u13, h13⟩ := hall (13, some 16) (by simp)
        obtain ⟨u14, h14⟩ := hall (14, some 17) (by simp)
        obtain ⟨u15, h15⟩ := hall (15, none) (by simp)
        simp only at h12 h13 h14 h15
        obtain ⟨b10, rfl, hb10, hx10⟩ := hX_.at_ 12 (by simp) _ h12
        simp [h15] at hx10
        have HX3 := hid hx10
        have HZ5 := hid (heap_grow HZ4.out hB_)
        have HB5 := hid (HB4.out.trans (hB_.mono HB4.out.size))
        clear hX_ hall hx10 hb10 hB_ hld hjl2
        dsimp only [putE, Act.put]
        simp only [h12, h13, h14, Option.getD_some, List.drop_succ_cons, List.drop_zero, List.drop_nil]
        clear h12 h13 h14 h15
        clear HZ4 HB4 HX4 HM0 HM1
        generalize V = W4 at *
        have HZ4 := HZ5
        have HB4 := HB5
        clear HZ5 HB5
        generalize glassS x.f4 hh = g at *
        have hz := st2_same HZ4.out (.int .i64 g.f0) (.int .i64 g.f1)
        have hb := st2_below HB4.out (Nat.le_refl _) (.int .i64 g.f0) (.int .i64 g.f1)
        have z0 := blkCell HZ4.out 0
        have z1 := blkCell HZ4.out 1
        have g0 := blkFrozen HZ4.out 0
        have g1 := blkFrozen HZ4.out 1
        simp at z0 z1
        have n0 := blkCell HX3.out 0
        have n1 := blkCell HX3.out 1
        simp at n0 n1
        go_wp2
        generalize ((W4.setCell ⟨w.heap.size, 0, none⟩ (.int .i64 g.f0)).setCell ⟨w.heap.size, 1, none⟩ (.int .i64 g.f1)) = w5 at *
        have q0 := blkCell hz 0
        have q1 := blkCell hz 1
        simp at q0 q1
        refine bodyPost_ret (v := .agg #[.int .i64 g.f0, .int .i64 g.f1]) (by simp [results, Tryz.results36, go_sem, q0, q1]) rfl ⟨by rw [HRS.out] <;> rfl, hb⟩
    by_cases hk3 : x.f1 = 3
    · have HK := hid hk3
      clear hk3
      have hres : chgX x (cm : Nat) hs (0, 0) = m := by simp [chgX, HK.out, HG.out, HM.out]
      have j0 : ((0 : Int) == 0) = true := by decide
      have j1 : ((0 : Int) == 1) = false := by decide
      have j2 : ((0 : Int) == 2) = false := by decide
      have f1 : (x.f1 == 1) = false := by simp [HK.out]
      have f2 : (x.f1 == 2) = false := by simp [HK.out]
      have f3 : (x.f1 == 3) = true := by simp [HK.out]
      have f4 : (x.f1 == 4) = false := by simp [HK.out]
      have f5 : (x.f1 == 5) = false := by simp [HK.out]
      have HRS := hid (show chgX x (cm : Nat) hs (0, 0) = m from hres)
      clear hres
      have hz := st2_same HZ4.out (.int .i64 m.f0) (.int .i64 m.f1)
      have hb := st2_below HB4.out (Nat.le_refl _) (.int .i64 m.f0) (.int .i64 m.f1)
      have z0 := blkCell HZ4.out 0
      have z1 := blkCell HZ4.out 1
      have g0 := blkFrozen HZ4.out 0
      have g1 := blkFrozen HZ4.out 1
      simp at z0 z1
      have n0 := blkCell HM1.out 0
      have n1 := blkCell HM1.out 1
      simp at n0 n1
      go_wp2
      generalize ((W4.setCell ⟨w.heap.size, 0, none⟩ (.int .i64 m.f0)).setCell ⟨w.heap.size, 1, none⟩ (.int .i64 m.f1)) = w5 at *
      have q0 := blkCell hz 0
      have q1 := blkCell hz 1
      simp at q0 q1
      refine bodyPost_ret (v := .agg #[.int .i64 m.f0, .int .i64 m.f1]) (by simp [results, Tryz.results36, go_sem, q0, q1]) rfl ⟨by rw [HRS.out] <;> rfl, hb⟩
    have hn2 := hk2
    have hn3 := hk3
    clear hk2
    clear hk3
    have hres : chgX x (cm : Nat) hs (0, 0) = z23 := by simp [chgX, hn2, hn3]
    have j0 : ((0 : Int) == 0) = true := by decide
    have j1 : ((0 : Int) == 1) = false := by decide
    have j2 : ((0 : Int) == 2) = false := by decide
    have f2 : (x.f1 == 2) = false := by simp [hn2]
    have f3 : (x.f1 == 3) = false := by simp [hn3]
    have HRS := hid (show chgX x (cm : Nat) hs (0, 0) = z23 from hres)
    clear hres
    have hz := st2_same HZ4.out (.int .i64 0) (.int .i64 0)
    have hb := st2_below HB4.out (Nat.le_refl _) (.int .i64 0) (.int .i64 0)
    have z0 := blkCell HZ4.out 0
    have z1 := blkCell HZ4.out 1
    have g0 := blkFrozen HZ4.out 0
    have g1 := blkFrozen HZ4.out 1
    simp at z0 z1
    go_wp2
    generalize ((W4.setCell ⟨w.heap.size, 0, none⟩ (.int .i64 0)).setCell ⟨w.heap.size, 1, none⟩ (.int .i64 0)) = w5 at *
    have q0 := blkCell hz 0
    have q1 := blkCell hz 1
    simp at q0 q1
    refine bodyPost_ret (v := .agg #[.int .i64 0, .int .i64 0]) (by simp [results, Tryz.results36, go_sem, q0, q1]) rfl ⟨by rw [HRS.out] <;> rfl, hb⟩
  · subst h1
    subst h2
    clear HA
    by_cases hk3 : x.f1 = 3
    · have HK := hid hk3
      clear hk3
      have hres : chgX x (cm : Nat) hs (1, 0) = g := by simp [chgX, HK.out, HG.out, HM.out]
      have j0 : ((1 : Int) == 0) = false := by decide
      have j1 : ((1 : Int) == 1) = true := by decide
      have j2 : ((1 : Int) == 2) = false := by decide
      have f1 : (x.f1 == 1) = false := by simp [HK.out]
      have f2 : (x.f1 == 2) = false := by simp [HK.out]
      have f3 : (x.f1 == 3) = true := by simp [HK.out]
      have f4 : (x.f1 == 4) = false := by simp [HK.out]
      have f5 : (x.f1 == 5) = false := by simp [HK.out]
      have HRS := hid (show chgX x (cm : Nat) hs (1, 0) = g from hres)
      clear hres
      have hz := st2_same HZ4.out (.int .i64 g.f0) (.int .i64 g.f1)
      have hb := st2_below HB4.out (Nat.le_refl _) (.int .i64 g.f0) (.int .i64 g.f1)
      have z0 := blkCell HZ4.out 0
      have z1 := blkCell HZ4.out 1
      have g0 := blkFrozen HZ4.out 0
      have g1 := blkFrozen HZ4.out 1
      simp at z0 z1
      have n0 := blkCell HM0.out 0
      have n1 := blkCell HM0.out 1
      simp at n0 n1
      go_wp2
      generalize ((W4.setCell ⟨w.heap.size, 0, none⟩ (.int .i64 g.f0)).setCell ⟨w.heap.size, 1, none⟩ (.int .i64 g.f1)) = w5 at *
      have q0 := blkCell hz 0
      have q1 := blkCell hz 1
      simp at q0 q1
      refine bodyPost_ret (v := .agg #[.int .i64 g.f0, .int .i64 g.f1]) (by simp [results, Tryz.results36, go_sem, q0, q1]) rfl ⟨by rw [HRS.out] <;> rfl, hb⟩
    by_cases hk4 : x.f1 = 4
    · have HK := hid hk4
      clear hk4
      have hres : chgX x (cm : Nat) hs (1, 0) = m := by simp [chgX, HK.out, HG.out, HM.out]
      have j0 : ((1 : Int) == 0) = false := by decide
      have j1 : ((1 : Int) == 1) = true := by decide
      have j2 : ((1 : Int) == 2) = false := by decide
      have f1 : (x.f1 == 1) = false := by simp [HK.out]
      have f2 : (x.f1 == 2) = false := by simp [HK.out]
      have f3 : (x.f1 == 3) = false := by simp [HK.out]
      have f4 : (x.f1 == 4) = true := by simp [HK.out]
      have f5 : (x.f1 == 5) = false := by simp [HK.out]
      have HRS := hid (show chgX x (cm : Nat) hs (1, 0) = m from hres)
      clear hres
      have hz := st2_same HZ4.out (.int .i64 m.f0) (.int .i64 m.f1)
      have hb := st2_below HB4.out (Nat.le_refl _) (.int .i64 m.f0) (.int .i64 m.f1)
      have z0 := blkCell HZ4.out 0
      have z1 := blkCell HZ4.out 1
      have g0 := blkFrozen HZ4.out 0
      have g1 := blkFrozen HZ4.out 1
      simp at z0 z1
      have n0 := blkCell HM1.out 0
      have n1 := blkCell HM1.out 1
      simp at n0 n1
      go_wp2
      generalize ((W4.setCell ⟨w.heap.size, 0, none⟩ (.int .i64 m.f0)).setCell ⟨w.heap.size, 1, none⟩ (.int .i64 m.f1)) = w5 at *
      have q0 := blkCell hz 0
      have q1 := blkCell hz 1
      simp at q0 q1
      refine bodyPost_ret (v := .agg #[.int .i64 m.f0, .int .i64 m.f1]) (by simp [results, Tryz.results36, go_sem, q0, q1]) rfl ⟨by rw [HRS.out] <;> rfl, hb⟩
    by_cases hk5 : x.f1 = 5
    · have HK := hid hk5
      clear hk5
      have hres : chgX x (cm : Nat) hs (1, 0) = m := by simp [chgX, HK.out, HG.out, HM.out]
      have j0 : ((1 : Int) == 0) = false := by decide
      have j1 : ((1 : Int) == 1) = true := by decide
      have j2 : ((1 : Int) == 2) = false := by decide
      have f1 : (x.f1 == 1) = false := by simp [HK.out]
      have f2 : (x.f1 == 2) = false := by simp [HK.out]
      have f3 : (x.f1 == 3) = false := by simp [HK.out]
      have f4 : (x.f1 == 4) = false := by simp [HK.out]
      have f5 : (x.f1 == 5) = true := by simp [HK.out]
      have HRS := hid (show chgX x (cm : Nat) hs (1, 0) = m from hres)
      clear hres
      have hz := st2_same HZ4.out (.int .i64 m.f0) (.int .i64 m.f1)
      have hb := st2_below HB4.out (Nat.le_refl _) (.int .i64 m.f0) (.int .i64 m.f1)
      have z0 := blkCell HZ4.out 0
      have z1 := blkCell HZ4.out 1
      have g0 := blkFrozen HZ4.out 0
      have g1 := blkFrozen HZ4.out 1
      simp at z0 z1
      have n0 := blkCell HM1.out 0
      have n1 := blkCell HM1.out 1
      simp at n0 n1
      go_wp2
      generalize ((W4.setCell ⟨w.heap.size, 0, none⟩ (.int .i64 m.f0)).setCell ⟨w.heap.size, 1, none⟩ (.int .i64 m.f1)) = w5 at *
      have q0 := blkCell hz 0
      have q1 := blkCell hz 1
      simp at q0 q1
      refine bodyPost_ret (v := .agg #[.int .i64 m.f0, .int .i64 m.f1]) (by simp [results, Tryz.results36, go_sem, q0, q1]) rfl ⟨by rw [HRS.out] <;> rfl, hb⟩
    have hn3 := hk3
    have hn4 := hk4
    have hn5 := hk5
    clear hk3
    clear hk4
    clear hk5
    have hres : chgX x (cm : Nat) hs (1, 0) = z23 := by simp [chgX, hn3, hn4, hn5]
    have j0 : ((1 : Int) == 0) = false := by decide
    have j1 : ((1 : Int) == 1) = true := by decide
    have j2 : ((1 : Int) == 2) = false := by decide
    have f3 : (x.f1 == 3) = false := by simp [hn3]
    have f4 : (x.f1 == 4) = false := by simp [hn4]
    have f5 : (x.f1 == 5) = false := by simp [hn5]
    have HRS := hid (show chgX x (cm : Nat) hs (1, 0) = z23 from hres)
    clear hres
    have hz := st2_same HZ4.out (.int .i64 0) (.int .i64 0)
    have hb := st2_below HB4.out (Nat.le_refl _) (.int .i64 0) (.int .i64 0)
    have z0 := blkCell HZ4.out 0
    have z1 := blkCell HZ4.out 1
    have g0 := blkFrozen HZ4.out 0
    have g1 := blkFrozen HZ4.out 1
    simp at z0 z1
    go_wp2
    generalize ((W4.setCell ⟨w.heap.size, 0, none⟩ (.int .i64 0)).setCell ⟨w.heap.size, 1, none⟩ (.int .i64 0)) = w5 at *
    have q0 := blkCell hz 0
    have q1 := blkCell hz 1
    simp at q0 q1
    refine bodyPost_ret (v := .agg #[.int .i64 0, .int .i64 0]) (by simp [results, Tryz.results36, go_sem, q0, q1]) rfl ⟨by rw [HRS.out] <;> rfl, hb⟩
  · subst h1
    clear HA
    by_cases hk1 : x.f1 = 1
    · have HK := hid hk1
      clear hk1
      by_cases ho : (cm : Int) = h
      · have b1 : ((cm : Int) == h) = true := by simp [ho]
        have hres : chgX x (cm : Nat) hs (2, h) = g := by simp [chgX, HK.out, HG.out, ho]
        have j0 : ((2 : Int) == 0) = false := by decide
        have j1 : ((2 : Int) == 1) = false := by decide
        have j2 : ((2 : Int) == 2) = true := by decide
        have f1 : (x.f1 == 1) = true := by simp [HK.out]
        have f2 : (x.f1 == 2) = false := by simp [HK.out]
        have f3 : (x.f1 == 3) = false := by simp [HK.out]
        have f4 : (x.f1 == 4) = false := by simp [HK.out]
        have f5 : (x.f1 == 5) = false := by simp [HK.out]
        clear ho
        have HRS := hid (show chgX x (cm : Nat) hs (2, h) = g from hres)
        clear hres
        have hz := st2_same HZ4.out (.int .i64 g.f0) (.int .i64 g.f1)
        have hb := st2_below HB4.out (Nat.le_refl _) (.int .i64 g.f0) (.int .i64 g.f1)
        have z0 := blkCell HZ4.out 0
        have z1 := blkCell HZ4.out 1
        have g0 := blkFrozen HZ4.out 0
        have g1 := blkFrozen HZ4.out 1
        simp at z0 z1
        have n0 := blkCell HM0.out 0
        have n1 := blkCell HM0.out 1
        simp at n0 n1
        go_wp2
        generalize ((W4.setCell ⟨w.heap.size, 0, none⟩ (.int .i64 g.f0)).setCell ⟨w.heap.size, 1, none⟩ (.int .i64 g.f1)) = w5 at *
        have q0 := blkCell hz 0
        have q1 := blkCell hz 1
        simp at q0 q1
        refine bodyPost_ret (v := .agg #[.int .i64 g.f0, .int .i64 g.f1]) (by simp [results, Tryz.results36, go_sem, q0, q1]) rfl ⟨by rw [HRS.out] <;> rfl, hb⟩
      · have b1 : ((cm : Int) == h) = false := by simp [ho]
        have hres : chgX x (cm : Nat) hs (2, h) = z23 := by simp [chgX, HK.out, Ne.symm ho]
        have j0 : ((2 : Int) == 0) = false := by decide
        have j1 : ((2 : Int) == 1) = false := by decide
        have j2 : ((2 : Int) == 2) = true := by decide
        have f1 : (x.f1 == 1) = true := by simp [HK.out]
        have f2 : (x.f1 == 2) = false := by simp [HK.out]
        have f3 : (x.f1 == 3) = false := by simp [HK.out]
        have f4 : (x.f1 == 4) = false := by simp [HK.out]
        have f5 : (x.f1 == 5) = false := by simp [HK.out]
        clear ho
        have HRS := hid (show chgX x (cm : Nat) hs (2, h) = z23 from hres)
        clear hres
        have hz := st2_same HZ4.out (.int .i64 0) (.int .i64 0)
        have hb := st2_below HB4.out (Nat.le_refl _) (.int .i64 0) (.int .i64 0)
        have z0 := blkCell HZ4.out 0
        have z1 := blkCell HZ4.out 1
        have g0 := blkFrozen HZ4.out 0
        have g1 := blkFrozen HZ4.out 1
        simp at z0 z1
        go_wp2
        generalize ((W4.setCell ⟨w.heap.size, 0, none⟩ (.int .i64 0)).setCell ⟨w.heap.size, 1, none⟩ (.int .i64 0)) = w5 at *
        have q0 := blkCell hz 0
        have q1 := blkCell hz 1
        simp at q0 q1
        refine bodyPost_ret (v := .agg #[.int .i64 0, .int .i64 0]) (by simp [results, Tryz.results36, go_sem, q0, q1]) rfl ⟨by rw [HRS.out] <;> rfl, hb⟩
    by_cases hk5 : x.f1 = 5
    · have HK := hid hk5
      clear hk5
      by_cases ho : (cm : Int) = h
      · have b1 : ((cm : Int) == h) = true := by simp [ho]
        have hres : chgX x (cm : Nat) hs (2, h) = g := by simp [chgX, HK.out, HG.out, ho]
        have j0 : ((2 : Int) == 0) = false := by decide
        have j1 : ((2 : Int) == 1) = false := by decide
        have j2 : ((2 : Int) == 2) = true := by decide
        have f1 : (x.f1 == 1) = false := by simp [HK.out]
        have f2 : (x.f1 == 2) = false := by simp [HK.out]
        have f3 : (x.f1 == 3) = false := by simp [HK.out]
        have f4 : (x.f1 == 4) = false := by simp [HK.out]
        have f5 : (x.f1 == 5) = true := by simp [HK.out]
        clear ho
        have HRS := hid (show chgX x (cm : Nat) hs (2, h) = g from hres)
        clear hres
        have hz := st2_same HZ4.out (.int .i64 g.f0) (.int .i64 g.f1)
        have hb := st2_below HB4.out (Nat.le_refl _) (.int .i64 g.f0) (.int .i64 g.f1)
        have z0 := blkCell HZ4.out 0
        have z1 := blkCell HZ4.out 1
        have g0 := blkFrozen HZ4.out 0
        have g1 := blkFrozen HZ4.out 1
        simp at z0 z1
        have n0 := blkCell HM0.out 0
        have n1 := blkCell HM0.out 1
        simp at n0 n1
        go_wp2
        generalize ((W4.setCell ⟨w.heap.size, 0, none⟩ (.int .i64 g.f0)).setCell ⟨w.heap.size, 1, none⟩ (.int .i64 g.f1)) = w5 at *
        have q0 := blkCell hz 0
        have q1 := blkCell hz 1
        simp at q0 q1
        refine bodyPost_ret (v := .agg #[.int .i64 g.f0, .int .i64 g.f1]) (by simp [results, Tryz.results36, go_sem, q0, q1]) rfl ⟨by rw [HRS.out] <;> rfl, hb⟩
      · have b1 : ((cm : Int) == h) = false := by simp [ho]
        have hres : chgX x (cm : Nat) hs (2, h) = z23 := by simp [chgX, HK.out, Ne.symm ho]
        have j0 : ((2 : Int) == 0) = false := by decide
        have j1 : ((2 : Int) == 1) = false := by decide
        have j2 : ((2 : Int) == 2) = true := by decide
        have f1 : (x.f1 == 1) = false := by simp [HK.out]
        have f2 : (x.f1 == 2) = false := by simp [HK.out]
        have f3 : (x.f1 == 3) = false := by simp [HK.out]
        have f4 : (x.f1 == 4) = false := by simp [HK.out]
        have f5 : (x.f1 == 5) = true := by simp [HK.out]
        clear ho
        have HRS := hid (show chgX x (cm : Nat) hs (2, h) = z23 from hres)
        clear hres
        have hz := st2_same HZ4.out (.int .i64 0) (.int .i64 0)
        have hb := st2_below HB4.out (Nat.le_refl _) (.int .i64 0) (.int .i64 0)
        have z0 := blkCell HZ4.out 0
        have z1 := blkCell HZ4.out 1
        have g0 := blkFrozen HZ4.out 0
        have g1 := blkFrozen HZ4.out 1
        simp at z0 z1
        go_wp2
        generalize ((W4.setCell ⟨w.heap.size, 0, none⟩ (.int .i64 0)).setCell ⟨w.heap.size, 1, none⟩ (.int .i64 0)) = w5 at *
        have q0 := blkCell hz 0
        have q1 := blkCell hz 1
        simp at q0 q1
        refine bodyPost_ret (v := .agg #[.int .i64 0, .int .i64 0]) (by simp [results, Tryz.results36, go_sem, q0, q1]) rfl ⟨by rw [HRS.out] <;> rfl, hb⟩
    by_cases hk2 : x.f1 = 2
    · have HK := hid hk2
      clear hk2
      by_cases ho : x.f2 = h
      · have b1 : (x.f2 == h) = true := by simp [ho]
        have hres : chgX x (cm : Nat) hs (2, h) = m := by simp [chgX, HK.out, HG.out, HM.out, ho]
        have j0 : ((2 : Int) == 0) = false := by decide
        have j1 : ((2 : Int) == 1) = false := by decide
        have j2 : ((2 : Int) == 2) = true := by decide
        have f1 : (x.f1 == 1) = false := by simp [HK.out]
        have f2 : (x.f1 == 2) = true := by simp [HK.out]
        have f3 : (x.f1 == 3) = false := by simp [HK.out]
        have f4 : (x.f1 == 4) = false := by simp [HK.out]
        have f5 : (x.f1 == 5) = false := by simp [HK.out]
        clear ho
        have HRS := hid (show chgX x (cm : Nat) hs (2, h) = m from hres)
        clear hres
        have hz := st2_same HZ4.out (.int .i64 m.f0) (.int .i64 m.f1)
        have hb := st2_below HB4.out (Nat.le_refl _) (.int .i64 m.f0) (.int .i64 m.f1)
        have z0 := blkCell HZ4.out 0
        have z1 := blkCell HZ4.out 1
        have g0 := blkFrozen HZ4.out 0
        have g1 := blkFrozen HZ4.out 1
        simp at z0 z1
        have n0 := blkCell HM1.out 0
        have n1 := blkCell HM1.out 1
        simp at n0 n1
        go_wp2
        generalize ((W4.setCell ⟨w.heap.size, 0, none⟩ (.int .i64 m.f0)).setCell ⟨w.heap.size, 1, none⟩ (.int .i64 m.f1)) = w5 at *
        have q0 := blkCell hz 0
        have q1 := blkCell hz 1
        simp at q0 q1
        refine bodyPost_ret (v := .agg #[.int .i64 m.f0, .int .i64 m.f1]) (by simp [results, Tryz.results36, go_sem, q0, q1]) rfl ⟨by rw [HRS.out] <;> rfl, hb⟩
      · have b1 : (x.f2 == h) = false := by simp [ho]
        have hres : chgX x (cm : Nat) hs (2, h) = z23 := by simp [chgX, HK.out, Ne.symm ho]
        have j0 : ((2 : Int) == 0) = false := by decide
        have j1 : ((2 : Int) == 1) = false := by decide
        have j2 : ((2 : Int) == 2) = true := by decide
        have f1 : (x.f1 == 1) = false := by simp [HK.out]
        have f2 : (x.f1 == 2) = true := by simp [HK.out]
        have f3 : (x.f1 == 3) = false := by simp [HK.out]
        have f4 : (x.f1 == 4) = false := by simp [HK.out]
        have f5 : (x.f1 == 5) = false := by simp [HK.out]
        clear ho
        have HRS := hid (show chgX x (cm : Nat) hs (2, h) = z23 from hres)
        clear hres
        have hz := st2_same HZ4.out (.int .i64 0) (.int .i64 0)
        have hb := st2_below HB4.out (Nat.le_refl _) (.int .i64 0) (.int .i64 0)
        have z0 := blkCell HZ4.out 0
        have z1 := blkCell HZ4.out 1
        have g0 := blkFrozen HZ4.out 0
        have g1 := blkFrozen HZ4.out 1
        simp at z0 z1
        go_wp2
        generalize ((W4.setCell ⟨w.heap.size, 0, none⟩ (.int .i64 0)).setCell ⟨w.heap.size, 1, none⟩ (.int .i64 0)) = w5 at *
        have q0 := blkCell hz 0
        have q1 := blkCell hz 1
        simp at q0 q1
        refine bodyPost_ret (v := .agg #[.int .i64 0, .int .i64 0]) (by simp [results, Tryz.results36, go_sem, q0, q1]) rfl ⟨by rw [HRS.out] <;> rfl, hb⟩
    have hn1 := hk1
    have hn5 := hk5
    have hn2 := hk2
    clear hk1
    clear hk5
    clear hk2
    have hres : chgX x (cm : Nat) hs (2, h) = z23 := by simp [chgX, hn1, hn5, hn2]
    have j0 : ((2 : Int) == 0) = false := by decide
    have j1 : ((2 : Int) == 1) = false := by decide
    have j2 : ((2 : Int) == 2) = true := by decide
    have f1 : (x.f1 == 1) = false := by simp [hn1]
    have f2 : (x.f1 == 2) = false := by simp [hn2]
    have f5 : (x.f1 == 5) = false := by simp [hn5]
    have HRS := hid (show chgX x (cm : Nat) hs (2, h) = z23 from hres)
    clear hres
    have hz := st2_same HZ4.out (.int .i64 0) (.int .i64 0)
    have hb := st2_below HB4.out (Nat.le_refl _) (.int .i64 0) (.int .i64 0)
    have z0 := blkCell HZ4.out 0
    have z1 := blkCell HZ4.out 1
    have g0 := blkFrozen HZ4.out 0
    have g1 := blkFrozen HZ4.out 1
    simp at z0 z1
    go_wp2
    generalize ((W4.setCell ⟨w.heap.size, 0, none⟩ (.int .i64 0)).setCell ⟨w.heap.size, 1, none⟩ (.int .i64 0)) = w5 at *
    have q0 := blkCell hz 0
    have q1 := blkCell hz 1
    simp at q0 q1
    refine bodyPost_ret (v := .agg #[.int .i64 0, .int .i64 0]) (by simp [results, Tryz.results36, go_sem, q0, q1]) rfl ⟨by rw [HRS.out] <;> rfl, hb⟩
end Go.Proofs.YtbmkbokkmmdjdaaGreat
end
section
namespace Go.Proofs.YtbmkbokkmmdjdaaGreat
open Go.RowKit Go.Proofs.YtbmkbokkmmdjdaaGreatW.PrintWords Go.Proofs.YtbmkbokkmmdjdaaGreatW.PrintLast Go.Proofs.YtbmkbokkmmdjdaaGreatW.PrintMore
open Q Go.Shelf
set_option linter.unusedVariables false
set_option linter.unusedSimpArgs false
def runF (f : S23 → S23 → S23) : S23 → List S23 → List S23
  | s, [] => [s]
  | s, x :: t => s :: runF f (f s x) t
theorem outK_run (f : S23 → S23 → S23) : ∀ (l : List S23) (s : S23), outK f s l l.length = runF f s l
  | [], s => by simp [outK, foldK, runF]
  | x :: t, s => by
    unfold runF
    rw [← outK_run f t (f s x)]
    unfold outK
    rw [List.length_cons, List.range_succ_eq_map, List.map_cons, List.map_map]
    rfl
def fwdR (b : S23) : S23 → List S23 → List S23
  | s, [] => if s.f1 < s.f0 then [] else [s]
  | s, x :: t => if s.f1 < s.f0 then [] else s :: fwdR b (meetS (plusS s x) b) t
theorem fwd_run {al b : S23} (P : Nat → S23 → Prop) (hP : ∀ n s x, P (n + 1) s → ¬ s.f1 < s.f0 → (-1000000000 ≤ x.f0 ∧ x.f0 ≤ x.f1 ∧ x.f1 ≤ 1000000000) → meetS (plusS s x) b = meetS (plusS s x) al ∧ P n (meetS (plusS s x) al)) :
    ∀ (l : List S23) (s : S23), (∀ x ∈ l, -1000000000 ≤ x.f0 ∧ x.f0 ≤ x.f1 ∧ x.f1 ≤ 1000000000) → P l.length s → fwdR b s l = (runF (fwdS al) s l).takeWhile fun s => !isWrong s
  | [], s, _, _ => by
    unfold fwdR runF isWrong
    by_cases h : s.f1 < s.f0
    · simp [h]
    · simp [h]
  | x :: t, s, hl, hp => by
    unfold fwdR runF
    by_cases h : s.f1 < s.f0
    · simp [h, isWrong]
    · obtain ⟨e, hn⟩ := hP t.length s x hp h (hl x (by simp))
      have hd : (!isWrong s) = true := by simp [isWrong, h]
      rw [if_neg h, List.takeWhile_cons, hd, if_pos rfl, show fwdS al s x = meetS (plusS s x) al from if_neg h, e]
      exact congrArg _ (fwd_run P hP t _ (fun y hy => hl y (by simp [hy])) hn)
theorem take_idx (p : S23 → Bool) : ∀ l : List S23, (l.takeWhile fun s => !p s).length = l.findIdx p
  | [] => rfl
  | x :: t => by
    rw [List.findIdx_cons, List.takeWhile_cons]
    cases h : p x with
    | true => simp
    | false => simp; exact take_idx p t
theorem take_all {p : S23 → Bool} : ∀ {l : List S23}, l.any p = false → (l.takeWhile fun s => !p s) = l
  | [], _ => rfl
  | x :: t, h => by
    rw [List.any_cons, Bool.or_eq_false_iff] at h
    rw [List.takeWhile_cons, h.1]
    simp
    exact take_all h.2
theorem wrong_len {F R : List S23} {n : Nat} (hF : F.length = n + 1) (hR : R = F.takeWhile fun s => !isWrong s) : (wrongS F < 0 ∧ R.length = n + 1 ∧ R = F) ∨ (0 ≤ wrongS F ∧ (R.length : Int) = wrongS F ∧ R.length ≤ n) := by
  unfold wrongS idxS
  cases h : F.any isWrong with
  | false => left; simp; rw [hR, take_all h]; exact ⟨hF, rfl⟩
  | true =>
    right
    have := List.findIdx_lt_length_of_exists (p := isWrong) (xs := F) (by simpa using h)
    rw [hR, take_idx]
    simp
    omega
def overS (b c : S23) : S23 := ⟨wrap64 (b.f0 - c.f1), wrap64 (b.f1 - c.f0)⟩
def backR (b : S23) (by_ : List S23) : Nat → S23
  | 0 => b
  | j + 1 => meetS (overS (backR b by_ j) (by_.getD (by_.length - 1 - j) z23)) b
def Chg (x : S23) : Prop := -1000000000 ≤ x.f0 ∧ x.f0 ≤ x.f1 ∧ x.f1 ≤ 1000000000
theorem mx_le {a b c : Int} : mx a b ≤ c ↔ a ≤ c ∧ b ≤ c := by unfold mx; split <;> omega
theorem le_mx {a b c : Int} : c ≤ mx a b ↔ c ≤ a ∨ c ≤ b := by unfold mx; split <;> omega
theorem mn_le {a b c : Int} : mn a b ≤ c ↔ a ≤ c ∨ b ≤ c := by unfold mn; split <;> omega
theorem le_mn {a b c : Int} : c ≤ mn a b ↔ c ≤ a ∧ c ≤ b := by unfold mn; split <;> omega
theorem backR_in {b : S23} (hb : 0 ≤ b.f0 ∧ b.f0 ≤ 1000000000000000 ∧ 0 ≤ b.f1 ∧ b.f1 ≤ 1000000000000000) {by_ : List S23} (hn : by_.length ≤ 1000000) (hc : ∀ j, Chg (by_.getD j z23)) :
    ∀ j : Nat, j ≤ by_.length → b.f0 ≤ (backR b by_ j).f0 ∧ (backR b by_ j).f0 ≤ 1000000000000000 + j * 1000000000 ∧ (backR b by_ j).f1 ≤ b.f1 ∧ - (j * 1000000000 : Int) ≤ (backR b by_ j).f1
  | 0, _ => by unfold backR; omega
  | j + 1, h => by
    obtain ⟨h1, h2, h3, h4⟩ := backR_in hb hn hc j (by omega)
    unfold backR
    generalize backR b by_ j = s at *
    have hx := hc (by_.length - 1 - j)
    generalize by_.getD (by_.length - 1 - j) z23 = x at *
    unfold Chg at hx
    unfold meetS overS
    simp only
    rw [wrap64_id (n := s.f0 - x.f1) (by omega) (by omega), wrap64_id (n := s.f1 - x.f0) (by omega) (by omega)]
    simp only [mx_le, le_mx, mn_le, le_mn]
    omega
theorem both_run {b : S23} (hb : 0 ≤ b.f0 ∧ b.f0 ≤ 1000000000000000 ∧ 0 ≤ b.f1 ∧ b.f1 ≤ 1000000000000000) {by_ F : List S23} (hn : by_.length ≤ 1000000) (hc : ∀ j, Chg (by_.getD j z23)) (hF : F.length = by_.length + 1)
    (hf : ∀ j, j ≤ by_.length → b.f0 ≤ (F.getD j z23).f0 ∧ (F.getD j z23).f1 ≤ b.f1 ∧ (F.getD j z23).f0 ≤ (F.getD j z23).f1)
    (hs : ∀ j, j < by_.length → F.getD (j + 1) z23 = meetS (plusS (F.getD j z23) (by_.getD j z23)) b) :
    ∀ j : Nat, j ≤ by_.length → foldK bothS (F.getD by_.length z23) (stepsK F by_ by_.length) j = meetS (F.getD (by_.length - j) z23) (backR b by_ j)
  | 0, _ => by
    have h0 := hf by_.length (Nat.le_refl _)
    unfold foldK backR
    simp only [List.take_zero, List.foldl_nil, Nat.sub_zero]
    generalize F.getD by_.length z23 = s at *
    cases s with | mk a c =>
    unfold meetS mx mn
    simp only at *
    congr 1
    · split <;> omega
    · split <;> omega
  | j + 1, h => by
    have hj : j < (stepsK F by_ by_.length).length := by simp [stepsK]; omega
    rw [foldK_succ hj, both_run hb hn hc hF hf hs j (by omega)]
    have hi : by_.length - (j + 1) < by_.length := by omega
    have e1 : (stepsK F by_ by_.length)[j] = (F.getD (by_.length - 1 - j) z23, by_.getD (by_.length - 1 - j) z23) := by simp [stepsK]
    rw [e1]
    have e2 : by_.length - (j + 1) = by_.length - 1 - j := by omega
    have e3 : by_.length - j = by_.length - 1 - j + 1 := by omega
    rw [e2, e3, hs (by_.length - 1 - j) (by omega)]
    obtain ⟨g1, g2, g3⟩ := hf (by_.length - 1 - j) (by omega)
    have g4 := hf (by_.length - 1 - j + 1) (by omega)
    rw [hs (by_.length - 1 - j) (by omega)] at g4
    obtain ⟨h1, h2, h3, h4⟩ := backR_in hb hn hc j (by omega)
    have hx := hc (by_.length - 1 - j)
    conv => rhs; unfold backR
    generalize F.getD (by_.length - 1 - j) z23 = s at *
    generalize backR b by_ j = u at *
    generalize by_.getD (by_.length - 1 - j) z23 = x at *
    clear hs hf hc e1 e2 e3 hj
    unfold Chg at hx
    obtain ⟨s0, s1⟩ := s
    obtain ⟨u0, u1⟩ := u
    obtain ⟨x0, x1⟩ := x
    obtain ⟨b0, b1⟩ := b
    unfold bothS meetS overS plusS minusS at *
    simp only at *
    rw [wrap64_id (n := s0 + x0) (by omega) (by omega), wrap64_id (n := s1 + x1) (by omega) (by omega)] at *
    rw [wrap64_id (n := -x0) (by omega) (by omega), wrap64_id (n := -x1) (by omega) (by omega), wrap64_id (n := u0 - x1) (by omega) (by omega), wrap64_id (n := u1 - x0) (by omega) (by omega)]
    have k1 : mx (mx (s0 + x0) b0) u0 ≤ 1000000000000000 + 1000000000000000 := by simp only [mx_le]; omega
    have k2 : 0 ≤ mx (mx (s0 + x0) b0) u0 := by simp only [le_mx]; omega
    have k3 : mn (mn (s1 + x1) b1) u1 ≤ 1000000000000000 := by simp only [mn_le]; omega
    have k4 : -1000000000000000 ≤ mn (mn (s1 + x1) b1) u1 := by simp only [le_mn]; omega
    rw [wrap64_id (n := _ + -x1) (by omega) (by omega), wrap64_id (n := _ + -x0) (by omega) (by omega)]
    clear k1 k2 k3 k4 g4
    congr 1
    · unfold mx
      repeat' split
      all_goals omega
    · unfold mn
      repeat' split
      all_goals omega
theorem gramsS_val {s : S23} (h : 0 ≤ s.f0 ∧ s.f0 ≤ s.f1 ∧ s.f1 ≤ 1000000) : gramsS s = ⟨1000 * s.f0, 1000 * s.f1⟩ := by
  unfold gramsS timesS
  simp only
  rw [wrap64_id (by omega) (by omega), wrap64_id (by omega) (by omega), Int.mul_comm s.f0, Int.mul_comm s.f1]
theorem meet_first (ho fi : S23) (k : Int) : meetS (firstS fi k) (boundsS ho k) = meetS (firstS fi k) (alwaysS ho k) := by
  unfold firstS boundsS alwaysS
  by_cases h : k = 0
  · rw [if_pos h, if_pos h, if_pos h]
  · rw [if_neg h, if_neg h, if_neg h]
    rfl
theorem bounds_in {ho : S23} (hho : 0 ≤ ho.f0 ∧ ho.f0 ≤ ho.f1 ∧ ho.f1 ≤ 1000000) (k : Int) : 0 ≤ (boundsS ho k).f0 ∧ (boundsS ho k).f0 ≤ 1000000000000000 ∧ 0 ≤ (boundsS ho k).f1 ∧ (boundsS ho k).f1 ≤ 1000000000000000 := by
  unfold boundsS
  by_cases h : k = 0
  · rw [if_pos h, gramsS_val hho]; simp only; omega
  · rw [if_neg h]; simp only; omega
theorem step_same {k : Int} {ho s x : S23} {M : Int} (hs : ¬ s.f1 < s.f0) (hx : Chg x) (h0 : k ≠ 0 → 0 ≤ s.f0 ∧ s.f1 ≤ M ∧ M + 1000000000 ≤ 1000000000000000) :
    meetS (plusS s x) (boundsS ho k) = meetS (plusS s x) (alwaysS ho k) ∧ (k ≠ 0 → 0 ≤ (meetS (plusS s x) (alwaysS ho k)).f0 ∧ (meetS (plusS s x) (alwaysS ho k)).f1 ≤ M + 1000000000) := by
  unfold boundsS alwaysS
  by_cases h : k = 0
  · rw [if_pos h, if_pos h]; exact ⟨rfl, fun e => absurd h e⟩
  · rw [if_neg h, if_neg h]
    obtain ⟨h1, h2, h3⟩ := h0 h
    unfold Chg at hx
    unfold meetS plusS
    simp only
    rw [wrap64_id (n := s.f0 + x.f0) (by omega) (by omega), wrap64_id (n := s.f1 + x.f1) (by omega) (by omega)]
    refine ⟨?_, fun _ => ⟨?_, ?_⟩⟩
    · congr 1
      unfold mn
      repeat' split
      all_goals omega
    · rw [le_mx]; omega
    · rw [mn_le]; omega
theorem fw_same {ho fi : S23} (k : Int) {by_ : List S23} (hn : by_.length ≤ 1000) (hc : ∀ x ∈ by_, Chg x) :
    fwdR (boundsS ho k) (meetS (firstS fi k) (boundsS ho k)) by_ = (forwardL ho fi k by_).takeWhile fun s => !isWrong s := by
  unfold forwardL
  rw [outK_run, meet_first]
  refine fwd_run (fun n s => k ≠ 0 → 0 ≤ s.f0 ∧ s.f1 ≤ 1000000000000 - n * 1000000000) (fun n s x hp hs hx => ?_) by_ _ hc (fun h => ?_)
  · have := step_same (k := k) (ho := ho) (M := 1000000000000 - ((n + 1 : Nat) : Int) * 1000000000) hs hx (fun h => ⟨(hp h).1, (hp h).2, by omega⟩)
    refine ⟨this.1, fun h => ⟨(this.2 h).1, ?_⟩⟩
    have := (this.2 h).2
    omega
  · unfold firstS alwaysS
    rw [if_neg h, if_neg h]
    unfold meetS mx mn
    simp
    omega
theorem fwd_at {ho fi : S23} {k : Int} {by_ : List S23} {j : Nat} (hj : j ≤ by_.length) : (forwardL ho fi k by_).getD j z23 = foldK (fwdS (alwaysS ho k)) (meetS (firstS fi k) (alwaysS ho k)) by_ j := by
  unfold forwardL outK
  simp [List.getD]
  rw [List.getElem?_range (by omega)]
  rfl
theorem not_wrong {F : List S23} (h : wrongS F < 0) {j : Nat} (hj : j < F.length) : (F.getD j z23).f0 ≤ (F.getD j z23).f1 := by
  unfold wrongS idxS at h
  split at h
  · omega
  · rename_i hh
    have hh : F.any isWrong = false := by simpa using hh
    rw [List.any_eq_false] at hh
    have := hh _ (List.getElem_mem hj)
    rw [show F.getD j z23 = F[j] by simp [List.getD, hj]]
    simp [isWrong] at this
    omega
theorem fwd_in {ho fi : S23} {k : Int} {by_ : List S23} (hn : by_.length ≤ 1000) (hc : ∀ j, Chg (by_.getD j z23)) (hw : wrongS (forwardL ho fi k by_) < 0) :
    ∀ j : Nat, j ≤ by_.length → (boundsS ho k).f0 ≤ ((forwardL ho fi k by_).getD j z23).f0 ∧ ((forwardL ho fi k by_).getD j z23).f1 ≤ (boundsS ho k).f1 ∧ (k ≠ 0 → 0 ≤ ((forwardL ho fi k by_).getD j z23).f0 ∧ ((forwardL ho fi k by_).getD j z23).f1 ≤ j * 1000000000) ∧
      (j < by_.length → (forwardL ho fi k by_).getD (j + 1) z23 = meetS (plusS ((forwardL ho fi k by_).getD j z23) (by_.getD j z23)) (boundsS ho k))
  | j, hj => by
    have nxt : (boundsS ho k).f0 ≤ ((forwardL ho fi k by_).getD j z23).f0 ∧ ((forwardL ho fi k by_).getD j z23).f1 ≤ (boundsS ho k).f1 ∧ (k ≠ 0 → 0 ≤ ((forwardL ho fi k by_).getD j z23).f0 ∧ ((forwardL ho fi k by_).getD j z23).f1 ≤ j * 1000000000) := by
      match j, hj with
      | 0, _ =>
        rw [fwd_at (by omega)]
        unfold foldK
        rw [List.take_zero, List.foldl_nil, ← meet_first]
        refine ⟨by unfold meetS; rw [le_mx]; omega, by unfold meetS; rw [mn_le]; omega, fun h => ?_⟩
        unfold firstS boundsS
        rw [if_neg h, if_neg h]
        unfold meetS mx mn
        simp
      | i + 1, hj =>
        obtain ⟨h1, h2, h3, h4⟩ := fwd_in hn hc hw i (by omega)
        have hne := not_wrong hw (j := i) (by rw [forwardL_len]; omega)
        have hs := step_same (k := k) (ho := ho) (M := (i : Int) * 1000000000) (by omega) (hc i) (fun h => ⟨(h3 h).1, (h3 h).2, by omega⟩)
        rw [h4 (by omega)]
        refine ⟨by unfold meetS; rw [le_mx]; omega, by unfold meetS; rw [mn_le]; omega, fun h => ?_⟩
        rw [hs.1]
        have := hs.2 h
        omega
    refine ⟨nxt.1, nxt.2.1, nxt.2.2, fun hlt => ?_⟩
    have hne := not_wrong hw (j := j) (by rw [forwardL_len]; omega)
    have hs := step_same (k := k) (ho := ho) (M := (j : Int) * 1000000000) (s := (forwardL ho fi k by_).getD j z23) (by omega) (hc j) (fun h => ⟨(nxt.2.2 h).1, (nxt.2.2 h).2, by omega⟩)
    rw [hs.1]
    rw [fwd_at (by omega : j ≤ by_.length)] at hne
    rw [fwd_at (by omega : j + 1 ≤ by_.length), fwd_at (by omega : j ≤ by_.length), foldK_succ hlt]
    rw [show by_.getD j z23 = by_[j] by simp [List.getD, hlt]]
    exact if_neg (by omega)
theorem amt_same {ho fi : S23} {k : Int} {by_ : List S23} (hho : 0 ≤ ho.f0 ∧ ho.f0 ≤ ho.f1 ∧ ho.f1 ≤ 1000000) (hn : by_.length ≤ 1000) (hc : ∀ j, Chg (by_.getD j z23)) (hw : wrongS (forwardL ho fi k by_) < 0) {n : Nat} (h : n ≤ by_.length) :
    (bothL ho fi k by_).getD n z23 = meetS ((forwardL ho fi k by_).getD n z23) (backR (boundsS ho k) by_ (by_.length - n)) := by
  have hr := both_run (bounds_in hho k) (by omega : by_.length ≤ 1000000) hc (forwardL_len ho fi k by_) (fun j hj => ⟨(fwd_in hn hc hw j hj).1, (fwd_in hn hc hw j hj).2.1, not_wrong hw (by rw [forwardL_len]; omega)⟩) (fun j hj => (fwd_in hn hc hw j (by omega)).2.2.2 hj) (by_.length - n) (by omega)
  rw [show by_.length - (by_.length - n) = n by omega] at hr
  rw [← hr]
  unfold bothL outK
  rw [List.getD_eq_getElem?_getD, List.getElem?_reverse (by simp; omega)]
  simp only [List.length_map, List.length_range, List.getElem?_map]
  rw [List.getElem?_range (by omega), show by_.length + 1 - 1 - n = by_.length - n by omega]
  rfl
end Go.Proofs.YtbmkbokkmmdjdaaGreat
end
