-- C4 C5 C6 (wip/pack9.py)
import Derived.Shelf.Bits.Mul64
import Derived.Test.YtbmkbokkmmdjdaaV18
section
namespace Go.Proofs.Ytbmkbokkmmdjdaa
open Go.RowKit Go.Proofs.YtbmkbokkmmdjdaaW.PrintWords Go.Proofs.YtbmkbokkmmdjdaaW.PrintLast Go.Proofs.YtbmkbokkmmdjdaaW.PrintMore
open Q Go.Shelf
attribute [local go_sem] Oper.semAt_some wide_depth wide_fn
set_option linter.unusedVariables false
set_option linter.unusedSimpArgs false

def uN (a : Int) : Nat := (a % 18446744073709551616).toNat
theorem uN_lt (a : Int) : uN a < 18446744073709551616 := by unfold uN; omega
theorem uN_wrap (a : Int) : IntKind.u64.wrap a = ((uN a : Nat) : Int) := by rw [IntKind.wrap_u64]; unfold uN; omega
def mulP (a b : Int) : Int × Int := (((uN a * uN b / 18446744073709551616 : Nat) : Int), ((uN a * uN b % 18446744073709551616 : Nat) : Int))
def above (x y : Int × Int) : Bool := decide (y.1 < x.1) || (x.1 == y.1 && decide (y.2 < x.2))
set_option maxRecDepth 100000 in
set_option maxHeartbeats 2000000 in
theorem mul64_any (x y : Nat) (hx : x < 18446744073709551616) (hy : y < 18446744073709551616) (w : World) :
    Calls Try.prog 83 #[.int .u64 x, .int .u64 y] w fun e w' => e = .returned (.tuple #[.int .u64 ((x * y / 18446744073709551616 : Nat) : Int), .int .u64 ((x * y % 18446744073709551616 : Nat) : Int)]) ∧ Below w.heap.size w w' := by
  obtain ⟨bd, bt, bw, hhi⟩ := Lib.mul64_hi x y hx hy
  have ba := Lib.half_mul_le (a := x / 4294967296) (b := y / 4294967296) (by omega) (by omega)
  have bb := Lib.half_mul_le (a := x / 4294967296) (b := y % 4294967296) (by omega) (by omega)
  have bc := Lib.half_mul_le (a := x % 4294967296) (b := y / 4294967296) (by omega) (by omega)
  have ba' : x / 4294967296 * (y / 4294967296) < 18446744073709551616 := by omega
  have bb' : x / 4294967296 * (y % 4294967296) < 18446744073709551616 := by omega
  have bc' : x % 4294967296 * (y / 4294967296) < 18446744073709551616 := by omega
  have bh1 : x / 4294967296 * (y / 4294967296) + (x / 4294967296 * (y % 4294967296) + x % 4294967296 * (y % 4294967296) / 4294967296) / 4294967296 < 18446744073709551616 := by omega
  have bh : x / 4294967296 * (y / 4294967296) + (x / 4294967296 * (y % 4294967296) + x % 4294967296 * (y % 4294967296) / 4294967296) / 4294967296 + ((x / 4294967296 * (y % 4294967296) + x % 4294967296 * (y % 4294967296) / 4294967296) % 4294967296 + x % 4294967296 * (y / 4294967296)) / 4294967296 < 18446744073709551616 := by omega
  have HB := Below.refl w.heap.size w
  go_enter Try.func83, Try.ntmps83
  go_wp2
  simp only [Mul64.maskN x hx, Mul64.maskN y hy, Mul64.divN, Mul64.mulN, Mul64.addN, Mul64.wrapN _ bd, Mul64.wrapN _ bb', Mul64.wrapN _ bt, Mul64.maskN _ bt, Mul64.wrapN _ bc', Mul64.wrapN _ bw, Mul64.wrapN _ ba', Mul64.wrapN _ bh1, Mul64.wrapN _ bh, Mul64.wrapM (x * y)]
  rw [hhi]
  go_ret2
  exact ⟨rfl, HB⟩
set_option maxRecDepth 100000 in
set_option maxHeartbeats 2000000 in
theorem multiplied_any (a b : Int) (w : World) : Calls Try.prog 61 #[.int .i64 a, .int .i64 b] w fun e w' => e = .returned (.agg #[.int .u64 (mulP a b).1, .int .u64 (mulP a b).2]) ∧ Below w.heap.size w w' := by
  have hu := Try.underlying116
  have hbel := (Below.refl w.heap.size w).alloc (Nat.le_refl _) (.cells #[.int .u64 0, .int .u64 0] 116)
  have e0 := World.alloc_heap_new w (.cells #[.int .u64 0, .int .u64 0] 116)
  have ha := uN_wrap a
  have hb := uN_wrap b
  go_enter Try.func61, Try.ntmps61
  go_wp2_with fail

  generalize w.alloc (.cells #[.int .u64 0, .int .u64 0] 116) = W1 at *
  refine (mul64_any (uN a) (uN b) (uN_lt a) (uN_lt b) _).mono ?_
  rintro e W2 ⟨rfl, hb⟩
  have H2 := hid (And.intro (hbel.trans (hb.mono hbel.size)) (heap_grow e0 hb))
  have q0 := blkCell H2.out.2 0
  have q1 := blkCell H2.out.2 1
  have f0 := blkFrozen H2.out.2 0
  have f1 := blkFrozen H2.out.2 1
  simp at q0 q1
  have HM := hid (show mulP a b = (((uN a * uN b / 18446744073709551616 : Nat) : Int), ((uN a * uN b % 18446744073709551616 : Nat) : Int)) from rfl)
  generalize ((uN a * uN b / 18446744073709551616 : Nat) : Int) = m0 at *
  generalize ((uN a * uN b % 18446744073709551616 : Nat) : Int) = m1 at *
  clear hb hbel e0 ha
  go_wp2
  have hz := st2_same H2.out.2 (.int .u64 m0) (.int .u64 m1)
  have hb := st2_below H2.out.1 (Nat.le_refl _) (.int .u64 m0) (.int .u64 m1)
  generalize ((W2.setCell ⟨w.heap.size, 0, none⟩ (.int .u64 m0)).setCell ⟨w.heap.size, 1, none⟩ (.int .u64 m1)) = VZ at *
  have r0 := blkCell hz 0
  have r1 := blkCell hz 1
  simp at r0 r1
  refine bodyPost_ret (v := .agg #[.int .u64 m0, .int .u64 m1]) (by simp [results, Try.results61, go_sem, r0, r1]) rfl ⟨by rw [HM.out], hb⟩
set_option maxRecDepth 100000 in
set_option maxHeartbeats 2000000 in
theorem above_any (x y : Int × Int) (w : World) : Calls Try.prog 62 #[.agg #[.int .u64 x.1, .int .u64 x.2], .agg #[.int .u64 y.1, .int .u64 y.2]] w (RetBool (above x y) w) := by
  have hu := Try.underlying116
  have HB := hid (((Below.refl w.heap.size w).alloc (Nat.le_refl _) (.cells #[.int .u64 x.1, .int .u64 x.2] 116)).alloc (by simp) (.cells #[.int .u64 y.1, .int .u64 y.2] 116))
  have e0 := alloc_old (o' := (.cells #[.int .u64 y.1, .int .u64 y.2] 116)) (World.alloc_heap_new w (.cells #[.int .u64 x.1, .int .u64 x.2] 116))
  have e1 := World.alloc_heap_new (w.alloc (.cells #[.int .u64 x.1, .int .u64 x.2] 116)) (.cells #[.int .u64 y.1, .int .u64 y.2] 116)
  simp only [World.size_alloc] at e1
  have HV := hid (show above x y = (decide (y.1 < x.1) || (x.1 == y.1 && decide (y.2 < x.2))) from rfl)
  by_cases h0 : y.1 < x.1
  · have d0 : decide (y.1 < x.1) = true := decide_eq_true h0
    have HV := hid (show above x y = true by rw [HV.out, d0]; rfl)
    clear h0
    go_enter Try.func62, Try.ntmps62
    go_wp2
    go_ret
    exact ⟨by rw [HV.out]; rfl, HB.out⟩
  · have d0 : decide (y.1 < x.1) = false := decide_eq_false h0
    cases h1 : x.1 == y.1 with
    | true =>
      have HV := hid (show above x y = decide (y.2 < x.2) by rw [HV.out, d0, h1]; simp)
      clear h0
      go_enter Try.func62, Try.ntmps62
      go_wp2
      go_ret
      exact ⟨by rw [HV.out]; rfl, HB.out⟩
    | false =>
      have HV := hid (show above x y = false by rw [HV.out, d0, h1]; rfl)
      clear h0
      go_enter Try.func62, Try.ntmps62
      go_wp2
      go_ret
      exact ⟨by rw [HV.out]; rfl, HB.out⟩
def muchB (p : S52) (cn : Int) : Bool := if p.f0.f1 = 0 then decide (0 < cn) else above (mulP cn p.f0.f1) (mulP p.f1.f0 (wrap64 (1000 * p.f3.f0)))
set_option maxRecDepth 100000 in
set_option maxHeartbeats 2000000 in
set_option pp.deepTerms true in
set_option pp.maxSteps 1000000 in
theorem much_any (p : S52) (cn : Int) (w : World) : Calls Try.prog 31 #[.agg #[.int .i64 p.f0.f0, .int .i64 p.f0.f1, .int .i64 p.f1.f0, .int .i64 p.f1.f1, .int .i64 p.f2.f0, .int .i64 p.f2.f1, .int .i64 p.f3.f0, .int .i64 p.f3.f1, .int .i64 p.f4], .int .i64 cn] w (RetBool (muchB p cn) w) := by
  have hu := Try.underlying52
  have hu1 := Try.underlying23
  have hbel := (Below.refl w.heap.size w).alloc (Nat.le_refl _) (.cells #[.int .i64 p.f0.f0, .int .i64 p.f0.f1, .int .i64 p.f1.f0, .int .i64 p.f1.f1, .int .i64 p.f2.f0, .int .i64 p.f2.f1, .int .i64 p.f3.f0, .int .i64 p.f3.f1, .int .i64 p.f4] 52)
  have e0 := World.alloc_heap_new w (.cells #[.int .i64 p.f0.f0, .int .i64 p.f0.f1, .int .i64 p.f1.f0, .int .i64 p.f1.f1, .int .i64 p.f2.f0, .int .i64 p.f2.f1, .int .i64 p.f3.f0, .int .i64 p.f3.f1, .int .i64 p.f4] 52)
  cases h0 : p.f0.f1 == 0 with
  | true =>
    have HV := hid (show muchB p cn = decide (0 < cn) by unfold muchB; rw [if_pos (by simpa using h0)])
    have HB := hid hbel
    clear hbel e0
    go_enter Try.func31, Try.ntmps31
    go_wp2
    go_ret
    exact ⟨by rw [HV.out]; rfl, HB.out⟩
  | false =>
    have HV := hid (show muchB p cn = above (mulP cn p.f0.f1) (mulP p.f1.f0 (wrap64 (1000 * p.f3.f0))) by unfold muchB; rw [if_neg (by simpa using h0)])
    go_enter Try.func31, Try.ntmps31
    go_upto_region 3 with fail
    generalize w.alloc (.cells #[.int .i64 p.f0.f0, .int .i64 p.f0.f1, .int .i64 p.f1.f0, .int .i64 p.f1.f1, .int .i64 p.f2.f0, .int .i64 p.f2.f1, .int .i64 p.f3.f0, .int .i64 p.f3.f1, .int .i64 p.f4] 52) = W1 at *
    have y0 := blkCell e0 0
    have y1 := blkCell e0 1
    have y2 := blkCell e0 2
    have y3 := blkCell e0 3
    have y4 := blkCell e0 4
    have y5 := blkCell e0 5
    have y6 := blkCell e0 6
    have y7 := blkCell e0 7
    have y8 := blkCell e0 8
    simp at y0 y1 y2 y3 y4 y5 y6 y7 y8
    have HB := hid hbel
    clear hbel e0 h0
    refine wp_flow [[], [], [1], [2, 1], [0, 3, 2, 1], [], [5], [6, 5], [], [8], [9, 8], [10, 9, 8], [7, 6, 5, 11, 10, 9, 8, 4, 0, 3, 2, 1], [4, 0, 3, 2, 1, 12, 7, 6, 5, 11, 10, 9, 8], [13, 4, 0, 3, 2, 1, 12, 7, 6, 5, 11, 10, 9, 8]] 14
      (fun V => V.cell? ⟨w.heap.size, 0, none⟩ = some (.int .i64 p.f0.f0) ∧ V.cell? ⟨w.heap.size, 1, none⟩ = some (.int .i64 p.f0.f1) ∧ V.cell? ⟨w.heap.size, 2, none⟩ = some (.int .i64 p.f1.f0) ∧ V.cell? ⟨w.heap.size, 3, none⟩ = some (.int .i64 p.f1.f1) ∧ V.cell? ⟨w.heap.size, 4, none⟩ = some (.int .i64 p.f2.f0) ∧ V.cell? ⟨w.heap.size, 5, none⟩ = some (.int .i64 p.f2.f1) ∧ V.cell? ⟨w.heap.size, 6, none⟩ = some (.int .i64 p.f3.f0) ∧ V.cell? ⟨w.heap.size, 7, none⟩ = some (.int .i64 p.f3.f1) ∧ V.cell? ⟨w.heap.size, 8, none⟩ = some (.int .i64 p.f4) ∧ Below W1.heap.size W1 V)
      { tmps := #[.agg #[.int .i64 p.f0.f0, .int .i64 p.f0.f1, .int .i64 p.f1.f0, .int .i64 p.f1.f1, .int .i64 p.f2.f0, .int .i64 p.f2.f1, .int .i64 p.f3.f0, .int .i64 p.f3.f1, .int .i64 p.f4], .int .i64 cn, .pointer (some ⟨w.heap.size, 0, none⟩), undef, .bool false, .pointer (some ⟨w.heap.size, 0, none⟩), .pointer (some ⟨w.heap.size, 1, none⟩), .int .i64 p.f0.f1, .bool false, undef, undef, .int .i64 cn, .pointer (some ⟨w.heap.size, 0, none⟩), .pointer (some ⟨w.heap.size, 1, none⟩), .int .i64 p.f0.f1, .agg #[.int .u64 (mulP cn p.f0.f1).1, .int .u64 (mulP cn p.f0.f1).2], .pointer (some ⟨w.heap.size, 2, none⟩), .pointer (some ⟨w.heap.size, 2, none⟩), .int .i64 p.f1.f0, .pointer (some ⟨w.heap.size, 6, none⟩), .pointer (some ⟨w.heap.size, 6, none⟩), .int .i64 p.f3.f0, .int .i64 (wrap64 (1000 * p.f3.f0)), .agg #[.int .u64 (mulP p.f1.f0 (wrap64 (1000 * p.f3.f0))).1, .int .u64 (mulP p.f1.f0 (wrap64 (1000 * p.f3.f0))).2], .bool (above (mulP cn p.f0.f1) (mulP p.f1.f0 (wrap64 (1000 * p.f3.f0))))], defers := [] }
      mixed (by kernel_rfl) rfl (Ahead.of3 11 25 rfl rfl (by kernel_rfl) rfl rfl) ?_ (AllFlow.ops rfl ?_) rfl ?_
    · exact ⟨y0, y1, y2, y3, y4, y5, y6, y7, y8, (Below.refl _ _).drew⟩
    · refine ⟨?_, ?_, ?_, ?_, ?_, ?_, ?_, ?_, ?_, ?_, ?_, ?_, ?_, ?_, trivial⟩
      · exact .val 11 _ rfl rfl fun V ⟨y0, y1, y2, y3, y4, y5, y6, y7, y8, hB_⟩ => by go_simp
      · exact .val 12 _ rfl rfl fun V ⟨y0, y1, y2, y3, y4, y5, y6, y7, y8, hB_⟩ => by go_simp
      · exact .val 13 _ rfl rfl fun V ⟨y0, y1, y2, y3, y4, y5, y6, y7, y8, hB_⟩ => by go_simp
      · exact .val 14 _ rfl rfl fun V ⟨y0, y1, y2, y3, y4, y5, y6, y7, y8, hB_⟩ => by go_simp
      · refine .call 15 (.agg #[.int .u64 (mulP cn p.f0.f1).1, .int .u64 (mulP cn p.f0.f1).2]) 61 #[.int .i64 cn, .int .i64 p.f0.f1] rfl rfl (fun V ⟨y0, y1, y2, y3, y4, y5, y6, y7, y8, hB_⟩ => by go_simp) fun V ⟨y0, y1, y2, y3, y4, y5, y6, y7, y8, hB_⟩ => ?_
        refine (multiplied_any cn p.f0.f1 _).mono ?_
        rintro e w' ⟨rfl, hb⟩
        exact ⟨rfl, cell_grow y0 hb, cell_grow y1 hb, cell_grow y2 hb, cell_grow y3 hb, cell_grow y4 hb, cell_grow y5 hb, cell_grow y6 hb, cell_grow y7 hb, cell_grow y8 hb, hB_.trans (hb.mono hB_.size)⟩
      · exact .val 16 _ rfl rfl fun V ⟨y0, y1, y2, y3, y4, y5, y6, y7, y8, hB_⟩ => by go_simp
      · exact .val 17 _ rfl rfl fun V ⟨y0, y1, y2, y3, y4, y5, y6, y7, y8, hB_⟩ => by go_simp
      · exact .val 18 _ rfl rfl fun V ⟨y0, y1, y2, y3, y4, y5, y6, y7, y8, hB_⟩ => by go_simp
      · exact .val 19 _ rfl rfl fun V ⟨y0, y1, y2, y3, y4, y5, y6, y7, y8, hB_⟩ => by go_simp
      · exact .val 20 _ rfl rfl fun V ⟨y0, y1, y2, y3, y4, y5, y6, y7, y8, hB_⟩ => by go_simp
      · exact .val 21 _ rfl rfl fun V ⟨y0, y1, y2, y3, y4, y5, y6, y7, y8, hB_⟩ => by go_simp
      · exact .val 22 _ rfl rfl fun V ⟨y0, y1, y2, y3, y4, y5, y6, y7, y8, hB_⟩ => by go_simp <;> exact wrap_i _
      · refine .call 23 (.agg #[.int .u64 (mulP p.f1.f0 (wrap64 (1000 * p.f3.f0))).1, .int .u64 (mulP p.f1.f0 (wrap64 (1000 * p.f3.f0))).2]) 61 #[.int .i64 p.f1.f0, .int .i64 (wrap64 (1000 * p.f3.f0))] rfl rfl (fun V ⟨y0, y1, y2, y3, y4, y5, y6, y7, y8, hB_⟩ => by go_simp) fun V ⟨y0, y1, y2, y3, y4, y5, y6, y7, y8, hB_⟩ => ?_
        refine (multiplied_any p.f1.f0 (wrap64 (1000 * p.f3.f0)) _).mono ?_
        rintro e w' ⟨rfl, hb⟩
        exact ⟨rfl, cell_grow y0 hb, cell_grow y1 hb, cell_grow y2 hb, cell_grow y3 hb, cell_grow y4 hb, cell_grow y5 hb, cell_grow y6 hb, cell_grow y7 hb, cell_grow y8 hb, hB_.trans (hb.mono hB_.size)⟩
      · refine .call 24 (.bool (above (mulP cn p.f0.f1) (mulP p.f1.f0 (wrap64 (1000 * p.f3.f0))))) 62 #[.agg #[.int .u64 (mulP cn p.f0.f1).1, .int .u64 (mulP cn p.f0.f1).2], .agg #[.int .u64 (mulP p.f1.f0 (wrap64 (1000 * p.f3.f0))).1, .int .u64 (mulP p.f1.f0 (wrap64 (1000 * p.f3.f0))).2]] rfl rfl (fun V ⟨y0, y1, y2, y3, y4, y5, y6, y7, y8, hB_⟩ => by go_simp) fun V ⟨y0, y1, y2, y3, y4, y5, y6, y7, y8, hB_⟩ => ?_
        refine (above_any (mulP cn p.f0.f1) (mulP p.f1.f0 (wrap64 (1000 * p.f3.f0))) _).mono ?_
        rintro e w' ⟨rfl, hb⟩
        exact ⟨rfl, cell_grow y0 hb, cell_grow y1 hb, cell_grow y2 hb, cell_grow y3 hb, cell_grow y4 hb, cell_grow y5 hb, cell_grow y6 hb, cell_grow y7 hb, cell_grow y8 hb, hB_.trans (hb.mono hB_.size)⟩
    rintro V ⟨y0, y1, y2, y3, y4, y5, y6, y7, y8, hB_⟩
    have HB2 := hid (HB.out.trans (hB_.mono HB.out.size))
    clear hB_ HB y0 y1 y2 y3 y4 y5 y6 y7 y8
    go_wp2
    go_ret
    exact ⟨by rw [HV.out]; rfl, HB2.out⟩
end Go.Proofs.Ytbmkbokkmmdjdaa
end
section
namespace Go.Proofs.Ytbmkbokkmmdjdaa
open Go.RowKit Go.Proofs.YtbmkbokkmmdjdaaW.PrintWords Go.Proofs.YtbmkbokkmmdjdaaW.PrintLast Go.Proofs.YtbmkbokkmmdjdaaW.PrintMore
open Q Go.Shelf
attribute [local go_sem] Oper.semAt_some wide_depth wide_fn
set_option linter.unusedVariables false
set_option linter.unusedSimpArgs false

def certS (K : KS) (cs : List Int) (x : S36) : List Int := if x.f1 = 7 then cs.set (K.at x.f3).1.toNat (wrap64 (cs.getD (K.at x.f3).1.toNat 0 + wrap64 (x.f7 * (K.at x.f3).2.f1))) else cs
def certK (K : KS) (l : List S36) (k : Nat) : List Int := (l.take k).foldl (certS K) (List.replicate K.ps.length 0)
def hitB (K : KS) (l : List S36) (k : Nat) : Bool := (l.getD k z36).f1 == 7 && muchB (K.ps.getD (K.at (l.getD k z36).f3).1.toNat z52) ((certK K l (k + 1)).getD (K.at (l.getD k z36).f3).1.toNat 0)
def covI (K : KS) (l : List S36) : Int := match (List.range l.length).find? (hitB K l) with | some i => (i : Int) | none => l.length
theorem covI_at {K : KS} {l : List S36} {k : Nat} (h : k < l.length) (hp : hitB K l k = true) (hn : ∀ j, j < k → hitB K l j = false) : covI K l = k := by
  have : (List.range l.length).find? (hitB K l) = some k := by
    rw [List.find?_range_eq_some]
    exact ⟨hp, by simpa using h, fun j hj => by rw [hn j hj]; rfl⟩
  unfold covI; rw [this]
theorem covI_none {K : KS} {l : List S36} (hn : ∀ j, j < l.length → hitB K l j = false) : covI K l = l.length := by
  have : (List.range l.length).find? (hitB K l) = none := by
    rw [List.find?_eq_none]
    intro j hj
    rw [hn j (List.mem_range.1 hj)]; decide
  unfold covI; rw [this]
theorem certK_succ {K : KS} {l : List S36} {k : Nat} (h : k < l.length) : certK K l (k + 1) = certS K (certK K l k) l[k] := by
  unfold certK
  rw [List.take_succ_eq_append_getElem h, List.foldl_append]
  rfl
theorem certS_len (K : KS) (cs : List Int) (x : S36) : (certS K cs x).length = cs.length := by unfold certS; split <;> simp
theorem certK_len (K : KS) (l : List S36) : ∀ k, k ≤ l.length → (certK K l k).length = K.ps.length
  | 0, _ => by simp [certK]
  | k + 1, h => by rw [certK_succ (by omega), certS_len, certK_len K l k (by omega)]
def cF (l : List Int) : List Value := l.map (.int .i64)
theorem cF_at {l : List Int} {j : Nat} (h : j < l.length) : (cF l)[j]? = some (.int .i64 (l.getD j 0)) := by simp [cF, List.getD, h]
theorem cF_set (l : List Int) (j : Nat) (v : Int) : (cF l).toArray.setIfInBounds j (.int .i64 v) = (cF (l.set j v)).toArray := by
  simp [cF, List.map_set]
theorem info3' : ∃ i0, Try.prog.info? 3 = some i0 ∧ i0.zero = some (.int .i64 0) ∧ i0.size = 1 ∧ i0.bytes = 8 := info_parts (by kernel_rfl)
theorem make_ints {n : Nat} (hn : n ≤ 1000000) (w : World) : (Instr.makeSlice 42 (.int .i64 n) (.int .i64 n)).run Try.prog w = .ok (.slice (some ⟨w.heap.size, 0, none⟩) n n) (w.alloc (.cells (cF (List.replicate n 0)).toArray 3)) := by
  obtain ⟨i0, hi, hz0, hz1, hz2⟩ := info3'
  have := run_makeSlice (P := Try.prog) w 42 3 i0 _ Try.underlying42 hi hz0 .i64 .i64 n n (by omega) (by omega) (by rw [hz1]; simp; omega) (by rw [hz2]; omega) (by omega)
  rw [this, hz1]
  simp only [Int.toNat_natCast]
  have e : madeCells #[.int .i64 0] (n * 1) = (cF (List.replicate n 0)).toArray := by
    apply Array.ext'
    rw [toList_madeCells_one]
    simp [cF]
  rw [← e]
  rfl
def CovI (Wa X : World) (cs : List Int) : Prop := Below Wa.heap.size Wa X ∧ X.heap[Wa.heap.size]? = some (.cells (cF cs).toArray 3 (0, 0))
set_option maxRecDepth 100000 in
set_option maxHeartbeats 8000000 in
set_option pp.deepTerms true in
set_option pp.maxSteps 1000000 in
theorem covered_any (ho fi : S23) (A : Option Addr) (c : Nat) (l : List S36) (K : KS) (Ah : Option Addr) (nh ch : Nat) (Ap : Option Addr) (cp Bm : Nat) (w : World) (hr : Kd.C k36 w A l.length l) (hrp : w.ownsRow 0 52 9 (.slice Ap K.ps.length cp) K.ps.length (pF K.ps)) (hmp : MapI w Bm K.pk)
    (hcl : ∀ k (h : k < l.length), l[k].f1 = 7 → ∃ p, (K.pk.find? fun p => p.1 == l[k].f3) = some p ∧ 0 ≤ p.2.1 ∧ p.2.1 < K.ps.length) (hn1 : 1 ≤ K.ps.length) (hn : K.ps.length ≤ 1000) (hl : l.length ≤ 1000) :
    Calls Try.prog 30 #[.agg #[.int .i64 ho.f0, .int .i64 ho.f1, .int .i64 fi.f0, .int .i64 fi.f1, .slice A l.length c], .agg #[.slice Ah nh ch, .slice Ap K.ps.length cp, .map (some Bm)]] w (RetInt (covI K l) w) := by
  have hu := Try.underlying26
  have hu0 := Try.underlying23
  have hu1 := Try.underlying36
  have hu2 := Try.underlying52
  have hu3 := Try.underlying73
  have hu4 := Try.underlying77
  have hu5 := Try.underlying42
  obtain ⟨g, gc, hga⟩ : ∃ g gc, Ap = some ⟨g, 0, none⟩ ∧ gc = cp := by
    rcases hrp.2 with ⟨h1, h2⟩ | ⟨g1, c1, u1, h1, _⟩
    · injection h1 with e1 e2 e3; omega
    · injection h1 with e1 e2 e3; exact ⟨g1, c1, e1, e3.symm⟩
  obtain ⟨rfl, rfl⟩ := hga
  have hbel := ((Below.refl w.heap.size w).alloc (Nat.le_refl _) (.cells #[.int .i64 ho.f0, .int .i64 ho.f1, .int .i64 fi.f0, .int .i64 fi.f1, .slice A l.length c] 26)).alloc (by simp) (.cells #[.slice Ah nh ch, .slice (some ⟨g, 0, none⟩) K.ps.length gc, .map (some Bm)] 73)
  have e0 := alloc_old (o' := (.cells #[.slice Ah nh ch, .slice (some ⟨g, 0, none⟩) K.ps.length gc, .map (some Bm)] 73)) (World.alloc_heap_new w (.cells #[.int .i64 ho.f0, .int .i64 ho.f1, .int .i64 fi.f0, .int .i64 fi.f1, .slice A l.length c] 26))
  have e1 := World.alloc_heap_new (w.alloc (.cells #[.int .i64 ho.f0, .int .i64 ho.f1, .int .i64 fi.f0, .int .i64 fi.f1, .slice A l.length c] 26)) (.cells #[.slice Ah nh ch, .slice (some ⟨g, 0, none⟩) K.ps.length gc, .map (some Bm)] 73)
  simp only [World.size_alloc] at e1
  have hsz : ((w.alloc (.cells #[.int .i64 ho.f0, .int .i64 ho.f1, .int .i64 fi.f0, .int .i64 fi.f1, .slice A l.length c] 26)).alloc (.cells #[.slice Ah nh ch, .slice (some ⟨g, 0, none⟩) K.ps.length gc, .map (some Bm)] 73)).heap.size = w.heap.size + 1 + 1 := by simp
  have HR := hid hr
  have HCL := hid hcl
  have H0 := hid (And.intro (rings_set hrp hbel) (hmp.grow hbel))
  clear hr hcl hrp hmp
  go_enter Try.func30, Try.ntmps30
  go_upto_region 1 with fail
  generalize hWa : ((w.alloc (.cells #[.int .i64 ho.f0, .int .i64 ho.f1, .int .i64 fi.f0, .int .i64 fi.f1, .slice A l.length c] 26)).alloc (.cells #[.slice Ah nh ch, .slice (some ⟨g, 0, none⟩) K.ps.length gc, .map (some Bm)] 73)) = Wa at *
  clear hWa
  have y0 := blkCell e1 0
  have y1 := blkCell e1 1
  have y2 := blkCell e1 2
  simp at y0 y1 y2
  have hmk := make_ints (n := K.ps.length) (by omega) Wa
  go_upto_region 2 with fail
  have hgr := (Below.refl Wa.heap.size Wa).alloc (Nat.le_refl _) (.cells (cF (List.replicate K.ps.length 0)).toArray 3)
  have H1 := hid (show CovI Wa (Wa.alloc (.cells (cF (List.replicate K.ps.length 0)).toArray 3)) (certK K l 0) from ⟨hgr, World.alloc_heap_new Wa _⟩)
  have e0' := heap_grow e0 hgr
  have HE := hid (And.intro e0 e1)
  have HB := hid (And.intro hbel hsz)
  clear hmk hgr e0 e1 y0 y1 y2 hbel
  generalize Wa.alloc (.cells (cF (List.replicate K.ps.length 0)).toArray 3) = W1 at *
  have y4 := blkCell e0' 4
  simp at y4
  go_wp2_with fail
  clear y4 e0'
  go_loopw [16] (fun v16 X => ∃ k : Nat, k ≤ l.length ∧ v16 = .int .i64 k ∧ Hid (CovI Wa X (certK K l k)) ∧ Hid (∀ j, j < k → hitB K l j = false)) (fun v16 _ => l.length - (intOf v16).toNat)
  case atStart => exact ⟨0, by omega, rfl, H1, hid fun j h => absurd h (by omega)⟩
  case round =>
    obtain ⟨k, hk, rfl, HX, HN⟩ := hrel
    rename World => Wk
    by_cases hlt : k < l.length
    · obtain ⟨x, hx⟩ : ∃ x, l[k] = x := ⟨_, rfl⟩
      have hgd : l.getD k z36 = x := by rw [← hx]; simp [List.getD, hlt]
      have hcl := HCL.out k hlt
      rw [hx] at hcl
      have hct := certK_succ (K := K) hlt
      rw [hx] at hct
      have hbw := HB.out.1.trans (HX.out.1.mono HB.out.1.size)
      have hcc := at_T36 (Kd.C_below HR.out hbw) k (by omega) (by omega)
      rw [rdP hlt, hx] at hcc
      simp only [Int.toNat_natCast] at hcc
      obtain ⟨ad, rfl, k0, k1, k2, k3, k4, k5, k6, k7, k8, k9, k10⟩ := hcc
      have HLT := hid hlt
      have HGD := hid hgd
      have hgr := (Below.refl Wk.heap.size Wk).alloc (Nat.le_refl _) (.cells #[.int .i64 x.f0, .int .u8 x.f1, .int .i64 x.f2, .int .i64 x.f3, .int .i64 x.f4.f0, .int .i64 x.f4.f1, .int .i64 x.f5.f0, .int .i64 x.f5.f1, .int .i64 x.f6.f0, .int .i64 x.f6.f1, .int .i64 x.f7] 36)
      have e7 := World.alloc_heap_new Wk (.cells #[.int .i64 x.f0, .int .u8 x.f1, .int .i64 x.f2, .int .i64 x.f3, .int .i64 x.f4.f0, .int .i64 x.f4.f1, .int .i64 x.f5.f0, .int .i64 x.f5.f1, .int .i64 x.f6.f0, .int .i64 x.f6.f1, .int .i64 x.f7] 36)
      have hX5 : CovI Wa (Wk.alloc (.cells #[.int .i64 x.f0, .int .u8 x.f1, .int .i64 x.f2, .int .i64 x.f3, .int .i64 x.f4.f0, .int .i64 x.f4.f1, .int .i64 x.f5.f0, .int .i64 x.f5.f1, .int .i64 x.f6.f0, .int .i64 x.f6.f1, .int .i64 x.f7] 36)) (certK K l k) := ⟨HX.out.1.trans (hgr.mono HX.out.1.size), heap_grow HX.out.2 hgr⟩
      have hx1 := heap_grow (heap_grow HE.out.2 HX.out.1) hgr
      have HB7 := hid (show w.heap.size + 1 + 1 < Wk.heap.size by rw [← hsz]; exact (Array.getElem?_eq_some_iff.1 HX.out.2).1)
      clear hx hgd hbw hgr
      go_upto_region 5 with fail
      generalize Wk.alloc (.cells #[.int .i64 x.f0, .int .u8 x.f1, .int .i64 x.f2, .int .i64 x.f3, .int .i64 x.f4.f0, .int .i64 x.f4.f1, .int .i64 x.f5.f0, .int .i64 x.f5.f1, .int .i64 x.f6.f0, .int .i64 x.f6.f1, .int .i64 x.f7] 36) = W5 at *
      generalize Wk.heap.size = B7 at *
      have y0 := blkCell e7 0
      have y1 := blkCell e7 1
      have y2 := blkCell e7 2
      have y3 := blkCell e7 3
      have y4 := blkCell e7 4
      have y5 := blkCell e7 5
      have y6 := blkCell e7 6
      have y7 := blkCell e7 7
      have y8 := blkCell e7 8
      have y9 := blkCell e7 9
      have y10 := blkCell e7 10
      simp at y0 y1 y2 y3 y4 y5 y6 y7 y8 y9 y10
      have H5 := hid (And.intro hX5 (And.intro e7 hx1))
      clear e7 hX5 hx1 k0 k1 k2 k3 k4 k5 k6 k7 k8 k9 k10 HX
      by_cases h7 : x.f1 = 7
      · obtain ⟨⟨kk, pi, sp⟩, hf7, hp7, hl7⟩ := hcl h7
        simp only at hp7 hl7
        obtain ⟨pj, rfl⟩ : ∃ pj : Nat, pi = pj := ⟨pi.toNat, by omega⟩
        have hpl : pj < K.ps.length := by omega
        have hat : K.at x.f3 = ((pj : Int), sp) := by unfold KS.at; rw [hf7]; rfl
        have d7 : (x.f1 == 7) = true := by simpa using h7
        have z0 := blkCell H5.out.2.2 0
        have z1 := blkCell H5.out.2.2 1
        have z2 := blkCell H5.out.2.2 2
        simp at z0 z1 z2
        have hlk := run_look (H0.out.2.grow H5.out.1.1) hf7
        simp only at hlk
        have HH := hid (And.intro hat (And.intro h7 hct))
        clear hcl hct h7 hat hp7
        go_upto_region 7 with fail
        have hgr := (Below.refl W5.heap.size W5).alloc (Nat.le_refl _) (.cells #[.int .i64 pj, .int .i64 sp.f0, .int .i64 sp.f1] 77)
        have e8 := World.alloc_heap_new W5 (.cells #[.int .i64 pj, .int .i64 sp.f0, .int .i64 sp.f1] 77)
        have hX6 : CovI Wa (W5.alloc (.cells #[.int .i64 pj, .int .i64 sp.f0, .int .i64 sp.f1] 77)) (certK K l k) := ⟨H5.out.1.1.trans (hgr.mono H5.out.1.1.size), heap_grow H5.out.1.2 hgr⟩
        have e7 := heap_grow H5.out.2.1 hgr
        have hx1 := heap_grow H5.out.2.2 hgr
        have HB8 := hid (show w.heap.size + 1 + 1 < W5.heap.size by rw [← hsz]; exact (Array.getElem?_eq_some_iff.1 H5.out.1.2).1)
        clear hgr hlk y0 y1 y2 y3 y4 y5 y6 y7 y8 y9 y10 z0 z1 z2
        generalize W5.alloc (.cells #[.int .i64 pj, .int .i64 sp.f0, .int .i64 sp.f1] 77) = W6 at *
        generalize W5.heap.size = B8 at *
        have y0 := blkCell e7 0
        have y1 := blkCell e7 1
        have y2 := blkCell e7 2
        have y3 := blkCell e7 3
        have y4 := blkCell e7 4
        have y5 := blkCell e7 5
        have y6 := blkCell e7 6
        have y7 := blkCell e7 7
        have y8 := blkCell e7 8
        have y9 := blkCell e7 9
        have y10 := blkCell e7 10
        have y11 := blkCell e8 0
        have y12 := blkCell e8 1
        have y13 := blkCell e8 2
        simp at y0 y1 y2 y3 y4 y5 y6 y7 y8 y9 y10 y11 y12 y13
        obtain ⟨cv, hcv⟩ : ∃ cv, (certK K l k).getD pj 0 = cv := ⟨_, rfl⟩
        have hcl' : (certK K l k).length = K.ps.length := certK_len K l k (by have := HLT.out; omega)
        have q0 : W6.cell? ⟨(w.heap.size + 1 + 1), pj, none⟩ = some (.int .i64 cv) := by
          have e := blkCell hX6.2 pj
          rw [hsz] at e
          rw [e, ← hcv, ← cF_at (by rw [hcl']; exact hpl)]; simp
        have H6 := hid (And.intro hX6 (And.intro e7 (And.intro e8 (And.intro hx1 (And.intro hcv hcl')))))
        clear hX6 e7 e8 hx1 hcv hcl' H5
        refine wp_flow [[], [], [1], [0, 2, 1], [3, 0, 2, 1], [], [5], [], [7], [8, 7], [6, 5, 9, 8, 7], [4, 3, 0, 2, 1, 10, 6, 5, 9, 8, 7], [0, 2, 1, 3, 4, 5, 6, 7, 8, 9, 10, 11], [12, 0, 2, 1, 3, 4, 5, 6, 7, 8, 9, 10, 11]] 12
          (fun V => V.cell? ⟨B7, 0, none⟩ = some (.int .i64 x.f0) ∧ V.cell? ⟨B7, 1, none⟩ = some (.int .u8 x.f1) ∧ V.cell? ⟨B7, 2, none⟩ = some (.int .i64 x.f2) ∧ V.cell? ⟨B7, 3, none⟩ = some (.int .i64 x.f3) ∧ V.cell? ⟨B7, 4, none⟩ = some (.int .i64 x.f4.f0) ∧ V.cell? ⟨B7, 5, none⟩ = some (.int .i64 x.f4.f1) ∧ V.cell? ⟨B7, 6, none⟩ = some (.int .i64 x.f5.f0) ∧ V.cell? ⟨B7, 7, none⟩ = some (.int .i64 x.f5.f1) ∧ V.cell? ⟨B7, 8, none⟩ = some (.int .i64 x.f6.f0) ∧ V.cell? ⟨B7, 9, none⟩ = some (.int .i64 x.f6.f1) ∧ V.cell? ⟨B7, 10, none⟩ = some (.int .i64 x.f7) ∧ V.cell? ⟨B8, 0, none⟩ = some (.int .i64 pj) ∧ V.cell? ⟨B8, 1, none⟩ = some (.int .i64 sp.f0) ∧ V.cell? ⟨B8, 2, none⟩ = some (.int .i64 sp.f1) ∧ V.cell? ⟨(w.heap.size + 1 + 1), pj, none⟩ = some (.int .i64 cv) ∧ Below W6.heap.size W6 V)
          { tmps := #[.agg #[.int .i64 ho.f0, .int .i64 ho.f1, .int .i64 fi.f0, .int .i64 fi.f1, .slice (some ad) l.length c], .agg #[.slice Ah nh ch, .slice (some ⟨g, 0, none⟩) K.ps.length gc, .map (some Bm)], .pointer (some ⟨w.heap.size, 0, none⟩), .pointer (some ⟨w.heap.size + 1, 0, none⟩), u4, .slice (some ⟨w.heap.size + 1 + 1, 0, none⟩) K.ps.length K.ps.length, .int .i64 k, .pointer (some ⟨B7, 0, none⟩), .pointer (some ⟨B8, 0, none⟩), .pointer (some ⟨w.heap.size + 1, 1, none⟩), .slice (some ⟨g, 0, none⟩) K.ps.length gc, .int .i64 K.ps.length, .slice (some ⟨w.heap.size + 1 + 1, 0, none⟩) K.ps.length K.ps.length, .pointer (some ⟨w.heap.size, 4, none⟩), .slice (some ad) l.length c, .int .i64 l.length, .int .i64 k, .bool true, .int .i64 k, .pointer (some (ad.add (k * 11))), .agg #[.int .i64 x.f0, .int .u8 x.f1, .int .i64 x.f2, .int .i64 x.f3, .int .i64 x.f4.f0, .int .i64 x.f4.f1, .int .i64 x.f5.f0, .int .i64 x.f5.f1, .int .i64 x.f6.f0, .int .i64 x.f6.f1, .int .i64 x.f7], .pointer (some ⟨B7, 1, none⟩), .int .u8 x.f1, .bool (x.f1 != 7), .pointer (some ⟨w.heap.size + 1, 2, none⟩), .map (some Bm), .pointer (some ⟨B7, 3, none⟩), .int .i64 x.f3, .agg #[.int .i64 pj, .int .i64 sp.f0, .int .i64 sp.f1], .slice (some ⟨w.heap.size + 1 + 1, 0, none⟩) K.ps.length K.ps.length, .pointer (some ⟨B8, 0, none⟩), .int .i64 pj, .pointer (some ⟨(w.heap.size + 1 + 1), pj, none⟩), .int .i64 cv, .pointer (some ⟨B7, 10, none⟩), .int .i64 x.f7, .pointer (some ⟨B8, 1, none⟩), .pointer (some ⟨B8, 2, none⟩), .int .i64 sp.f1, .int .i64 (wrap64 (x.f7 * sp.f1)), .int .i64 (wrap64 (cv + wrap64 (x.f7 * sp.f1))), u41, u42, u43, u44, u45, u46, u47, u48, u49, u50, u51, u52, u53, u54, u55, undef, undef, undef], defers := [] }
          mixed (by kernel_rfl) rfl (Ahead.of3 29 41 rfl rfl (by kernel_rfl) rfl rfl) ?_ (AllFlow.ops rfl ?_) rfl ?_
        · exact ⟨y0, y1, y2, y3, y4, y5, y6, y7, y8, y9, y10, y11, y12, y13, q0, (Below.refl _ _).drew⟩
        · refine ⟨?_, ?_, ?_, ?_, ?_, ?_, ?_, ?_, ?_, ?_, ?_, ?_, trivial⟩
          · exact .val 29 _ rfl rfl fun V ⟨y0, y1, y2, y3, y4, y5, y6, y7, y8, y9, y10, y11, y12, y13, x0, hB_⟩ => by go_simp
          · exact .val 30 _ rfl rfl fun V ⟨y0, y1, y2, y3, y4, y5, y6, y7, y8, y9, y10, y11, y12, y13, x0, hB_⟩ => by go_simp
          · exact .val 31 _ rfl rfl fun V ⟨y0, y1, y2, y3, y4, y5, y6, y7, y8, y9, y10, y11, y12, y13, x0, hB_⟩ => by go_simp
          · exact .val 32 _ rfl rfl fun V ⟨y0, y1, y2, y3, y4, y5, y6, y7, y8, y9, y10, y11, y12, y13, x0, hB_⟩ => by go_simp <;> exact fun hh => absurd hh (by omega)
          · exact .val 33 _ rfl rfl fun V ⟨y0, y1, y2, y3, y4, y5, y6, y7, y8, y9, y10, y11, y12, y13, x0, hB_⟩ => by go_simp
          · exact .val 34 _ rfl rfl fun V ⟨y0, y1, y2, y3, y4, y5, y6, y7, y8, y9, y10, y11, y12, y13, x0, hB_⟩ => by go_simp
          · exact .val 35 _ rfl rfl fun V ⟨y0, y1, y2, y3, y4, y5, y6, y7, y8, y9, y10, y11, y12, y13, x0, hB_⟩ => by go_simp
          · exact .val 36 _ rfl rfl fun V ⟨y0, y1, y2, y3, y4, y5, y6, y7, y8, y9, y10, y11, y12, y13, x0, hB_⟩ => by go_simp
          · exact .val 37 _ rfl rfl fun V ⟨y0, y1, y2, y3, y4, y5, y6, y7, y8, y9, y10, y11, y12, y13, x0, hB_⟩ => by go_simp
          · exact .val 38 _ rfl rfl fun V ⟨y0, y1, y2, y3, y4, y5, y6, y7, y8, y9, y10, y11, y12, y13, x0, hB_⟩ => by go_simp
          · exact .val 39 _ rfl rfl fun V ⟨y0, y1, y2, y3, y4, y5, y6, y7, y8, y9, y10, y11, y12, y13, x0, hB_⟩ => by go_simp <;> exact wrap_i _
          · exact .val 40 _ rfl rfl fun V ⟨y0, y1, y2, y3, y4, y5, y6, y7, y8, y9, y10, y11, y12, y13, x0, hB_⟩ => by go_simp <;> exact wrap_i _
        rintro V ⟨y0, y1, y2, y3, y4, y5, y6, y7, y8, y9, y10, y11, y12, y13, x0, hB_⟩
        have hX7 : CovI Wa V (certK K l k) := ⟨H6.out.1.1.trans (hB_.mono H6.out.1.1.size), heap_grow H6.out.1.2 hB_⟩
        have f0 : V.frozen? ⟨w.heap.size + 1 + 1, pj, none⟩ = false := by have := blkFrozen hX7.2 pj; rwa [hsz] at this
        have e7 := heap_grow H6.out.2.1 hB_
        have e8 := heap_grow H6.out.2.2.1 hB_
        have H7 := hid (And.intro hX7 (And.intro e7 e8))
        clear hX7 e7 e8 hB_ y0 y1 y2 y3 y4 y5 y6 y7 y8 y9 y10 y11 y12 y13 q0
        go_upto_region 8 with fail
        have hX8 : CovI Wa (V.setCell ⟨w.heap.size + 1 + 1, pj, none⟩ (.int .i64 (wrap64 (cv + wrap64 (x.f7 * sp.f1))))) (certK K l (k + 1)) := by
          have h1 := H7.out.1.1.setCell (p := ⟨w.heap.size + 1 + 1, pj, none⟩) (by rw [hsz]; exact Nat.le_refl _) (.int .i64 (wrap64 (cv + wrap64 (x.f7 * sp.f1))))
          have h2 := set_at H7.out.1.2 pj (.int .i64 (wrap64 (cv + wrap64 (x.f7 * sp.f1))))
          rw [hsz] at h2
          refine ⟨h1, ?_⟩
          rw [hsz, h2, cF_set, HH.out.2.2]
          unfold certS
          rw [if_pos HH.out.2.1, HH.out.1]
          simp only [Int.toNat_natCast]
          rw [H6.out.2.2.2.2.1]
        have e7 := set_other (p := ⟨w.heap.size + 1 + 1, pj, none⟩) (v := .int .i64 (wrap64 (cv + wrap64 (x.f7 * sp.f1)))) (show B7 ≠ w.heap.size + 1 + 1 by have := HB7.out; omega) H7.out.2.1
        have e8 := set_other (p := ⟨w.heap.size + 1 + 1, pj, none⟩) (v := .int .i64 (wrap64 (cv + wrap64 (x.f7 * sp.f1)))) (show B8 ≠ w.heap.size + 1 + 1 by have := HB8.out; omega) H7.out.2.2
        generalize V.setCell ⟨w.heap.size + 1 + 1, pj, none⟩ (.int .i64 (wrap64 (cv + wrap64 (x.f7 * sp.f1)))) = W7 at *
        obtain ⟨pp, hpp⟩ : ∃ pp, K.ps.getD pj z52 = pp := ⟨_, rfl⟩
        have hrow := rings_set H0.out.1 hX8.1
        have hx1 := heap_grow HE.out.2 hX8.1
        have hcl8 : (certK K l (k + 1)).length = K.ps.length := certK_len K l (k + 1) (by have := HLT.out; omega)
        have hcv8 : (certK K l (k + 1)).getD pj 0 = wrap64 (cv + wrap64 (x.f7 * sp.f1)) := by
          rw [HH.out.2.2]
          unfold certS
          rw [if_pos HH.out.2.1, HH.out.1]
          simp only [Int.toNat_natCast]
          rw [H6.out.2.2.2.2.1]
          simp [List.getD, H6.out.2.2.2.2.2, hpl]
        have q0 : W7.cell? ⟨w.heap.size + 1 + 1, pj, none⟩ = some (.int .i64 (wrap64 (cv + wrap64 (x.f7 * sp.f1)))) := by
          have e := blkCell hX8.2 pj
          rw [hsz] at e
          rw [e, ← hcv8, ← cF_at (by rw [hcl8]; exact hpl)]; simp
        have hq : ∀ j, j < 9 → W7.cell? ⟨g, pj * 9 + j, none⟩ = (pC pp)[j]? := fun j hj => by
          have e := hrow.cellAt (pj * 9 + j) (by omega)
          rw [pF_at hpl hj, hpp] at e; exact e
        have q1 : W7.cell? ⟨g, pj * 9, none⟩ = some (.int .i64 pp.f0.f0) := hq 0 (by omega)
        have q2 := hq 1 (by omega)
        have q3 := hq 2 (by omega)
        have q4 := hq 3 (by omega)
        have q5 := hq 4 (by omega)
        have q6 := hq 5 (by omega)
        have q7 := hq 6 (by omega)
        have q8 := hq 7 (by omega)
        have q9 := hq 8 (by omega)
        simp [pC] at q2 q3 q4 q5 q6 q7 q8 q9
        have y0 := blkCell e7 0
        have y1 := blkCell e7 1
        have y2 := blkCell e7 2
        have y3 := blkCell e7 3
        have y4 := blkCell e7 4
        have y5 := blkCell e7 5
        have y6 := blkCell e7 6
        have y7 := blkCell e7 7
        have y8 := blkCell e7 8
        have y9 := blkCell e7 9
        have y10 := blkCell e7 10
        have y11 := blkCell e8 0
        have y12 := blkCell e8 1
        have y13 := blkCell e8 2
        have y14 := blkCell hx1 0
        have y15 := blkCell hx1 1
        have y16 := blkCell hx1 2
        simp at y0 y1 y2 y3 y4 y5 y6 y7 y8 y9 y10 y11 y12 y13 y14 y15 y16
        have H8 := hid hX8
        have HHB := hid (show hitB K l k = muchB pp (wrap64 (cv + wrap64 (x.f7 * sp.f1))) by
          unfold hitB
          rw [HGD.out, HH.out.1]
          simp only [Int.toNat_natCast]
          rw [hpp, hcv8, show (x.f1 == 7) = true by simpa using HH.out.2.1, Bool.true_and])
        have hld : decide ((pj : Int) < (K.ps.length : Int)) = true := decide_eq_true (by omega)
        clear hX8 e7 e8 hx1 hcv8 hcl8 hrow hq hpp H7 H6 HH f0
        refine wp_flow [[], [0], [], [2], [1, 0, 3, 2], [4, 1, 0, 3, 2], [], [], [7], [6, 8, 7], [9, 6, 8, 7], [5, 4, 1, 0, 3, 2, 10, 9, 6, 8, 7]] 12
          (fun V => V.cell? ⟨B7, 0, none⟩ = some (.int .i64 x.f0) ∧ V.cell? ⟨B7, 1, none⟩ = some (.int .u8 x.f1) ∧ V.cell? ⟨B7, 2, none⟩ = some (.int .i64 x.f2) ∧ V.cell? ⟨B7, 3, none⟩ = some (.int .i64 x.f3) ∧ V.cell? ⟨B7, 4, none⟩ = some (.int .i64 x.f4.f0) ∧ V.cell? ⟨B7, 5, none⟩ = some (.int .i64 x.f4.f1) ∧ V.cell? ⟨B7, 6, none⟩ = some (.int .i64 x.f5.f0) ∧ V.cell? ⟨B7, 7, none⟩ = some (.int .i64 x.f5.f1) ∧ V.cell? ⟨B7, 8, none⟩ = some (.int .i64 x.f6.f0) ∧ V.cell? ⟨B7, 9, none⟩ = some (.int .i64 x.f6.f1) ∧ V.cell? ⟨B7, 10, none⟩ = some (.int .i64 x.f7) ∧ V.cell? ⟨B8, 0, none⟩ = some (.int .i64 pj) ∧ V.cell? ⟨B8, 1, none⟩ = some (.int .i64 sp.f0) ∧ V.cell? ⟨B8, 2, none⟩ = some (.int .i64 sp.f1) ∧ V.cell? ⟨(w.heap.size + 1), 0, none⟩ = some (.slice Ah nh ch) ∧ V.cell? ⟨(w.heap.size + 1), 1, none⟩ = some (.slice (some ⟨g, 0, none⟩) K.ps.length gc) ∧ V.cell? ⟨(w.heap.size + 1), 2, none⟩ = some (.map (some Bm)) ∧ V.cell? ⟨(w.heap.size + 1 + 1), pj, none⟩ = some (.int .i64 (wrap64 (cv + wrap64 (x.f7 * sp.f1)))) ∧ V.cell? ⟨g, pj * 9, none⟩ = some (.int .i64 pp.f0.f0) ∧ V.cell? ⟨g, pj * 9 + 1, none⟩ = some (.int .i64 pp.f0.f1) ∧ V.cell? ⟨g, pj * 9 + 2, none⟩ = some (.int .i64 pp.f1.f0) ∧ V.cell? ⟨g, pj * 9 + 3, none⟩ = some (.int .i64 pp.f1.f1) ∧ V.cell? ⟨g, pj * 9 + 4, none⟩ = some (.int .i64 pp.f2.f0) ∧ V.cell? ⟨g, pj * 9 + 5, none⟩ = some (.int .i64 pp.f2.f1) ∧ V.cell? ⟨g, pj * 9 + 6, none⟩ = some (.int .i64 pp.f3.f0) ∧ V.cell? ⟨g, pj * 9 + 7, none⟩ = some (.int .i64 pp.f3.f1) ∧ V.cell? ⟨g, pj * 9 + 8, none⟩ = some (.int .i64 pp.f4) ∧ Below W7.heap.size W7 V)
          { tmps := #[.agg #[.int .i64 ho.f0, .int .i64 ho.f1, .int .i64 fi.f0, .int .i64 fi.f1, .slice (some ad) l.length c], .agg #[.slice Ah nh ch, .slice (some ⟨g, 0, none⟩) K.ps.length gc, .map (some Bm)], .pointer (some ⟨w.heap.size, 0, none⟩), .pointer (some ⟨(w.heap.size + 1), 0, none⟩), u4, .slice (some ⟨w.heap.size + 1 + 1, 0, none⟩) K.ps.length K.ps.length, .int .i64 k, .pointer (some ⟨B7, 0, none⟩), .pointer (some ⟨B8, 0, none⟩), .pointer (some ⟨w.heap.size + 1, 1, none⟩), .slice (some ⟨g, 0, none⟩) K.ps.length gc, .int .i64 K.ps.length, .slice (some ⟨w.heap.size + 1 + 1, 0, none⟩) K.ps.length K.ps.length, .pointer (some ⟨w.heap.size, 4, none⟩), .slice (some ad) l.length c, .int .i64 l.length, .int .i64 k, .bool true, .int .i64 k, .pointer (some (ad.add (k * 11))), .agg #[.int .i64 x.f0, .int .u8 x.f1, .int .i64 x.f2, .int .i64 x.f3, .int .i64 x.f4.f0, .int .i64 x.f4.f1, .int .i64 x.f5.f0, .int .i64 x.f5.f1, .int .i64 x.f6.f0, .int .i64 x.f6.f1, .int .i64 x.f7], .pointer (some ⟨B7, 1, none⟩), .int .u8 x.f1, .bool false, .pointer (some ⟨w.heap.size + 1, 2, none⟩), .map (some Bm), .pointer (some ⟨B7, 3, none⟩), .int .i64 x.f3, .agg #[.int .i64 pj, .int .i64 sp.f0, .int .i64 sp.f1], .slice (some ⟨w.heap.size + 1 + 1, 0, none⟩) K.ps.length K.ps.length, .pointer (some ⟨B8, 0, none⟩), .int .i64 pj, .pointer (some ⟨w.heap.size + 1 + 1, pj, none⟩), .int .i64 cv, .pointer (some ⟨B7, 10, none⟩), .int .i64 x.f7, .pointer (some ⟨B8, 1, none⟩), .pointer (some ⟨B8, 2, none⟩), .int .i64 sp.f1, .int .i64 (wrap64 (x.f7 * sp.f1)), .int .i64 (wrap64 (cv + wrap64 (x.f7 * sp.f1))), .pointer (some ⟨w.heap.size + 1 + 1, pj, none⟩), .pointer (some ⟨(w.heap.size + 1), 1, none⟩), .slice (some ⟨g, 0, none⟩) K.ps.length gc, .pointer (some ⟨B8, 0, none⟩), .int .i64 pj, .pointer (some ⟨g, pj * 9, none⟩), .agg #[.int .i64 pp.f0.f0, .int .i64 pp.f0.f1, .int .i64 pp.f1.f0, .int .i64 pp.f1.f1, .int .i64 pp.f2.f0, .int .i64 pp.f2.f1, .int .i64 pp.f3.f0, .int .i64 pp.f3.f1, .int .i64 pp.f4], .slice (some ⟨w.heap.size + 1 + 1, 0, none⟩) K.ps.length K.ps.length, .pointer (some ⟨B8, 0, none⟩), .int .i64 pj, .pointer (some ⟨(w.heap.size + 1 + 1), pj, none⟩), .int .i64 (wrap64 (cv + wrap64 (x.f7 * sp.f1))), .bool (muchB pp (wrap64 (cv + wrap64 (x.f7 * sp.f1)))), u54, u55, undef, undef, undef], defers := [] }
          mixed (by kernel_rfl) rfl (Ahead.of3 42 54 rfl rfl (by kernel_rfl) rfl rfl) ?_ (AllFlow.ops rfl ?_) rfl ?_
        · exact ⟨y0, y1, y2, y3, y4, y5, y6, y7, y8, y9, y10, y11, y12, y13, y14, y15, y16, q0, q1, q2, q3, q4, q5, q6, q7, q8, q9, (Below.refl _ _).drew⟩
        · refine ⟨?_, ?_, ?_, ?_, ?_, ?_, ?_, ?_, ?_, ?_, ?_, ?_, trivial⟩
          · exact .val 42 _ rfl rfl fun V ⟨y0, y1, y2, y3, y4, y5, y6, y7, y8, y9, y10, y11, y12, y13, y14, y15, y16, x0, x1, x2, x3, x4, x5, x6, x7, x8, x9, hB_⟩ => by go_simp
          · exact .val 43 _ rfl rfl fun V ⟨y0, y1, y2, y3, y4, y5, y6, y7, y8, y9, y10, y11, y12, y13, y14, y15, y16, x0, x1, x2, x3, x4, x5, x6, x7, x8, x9, hB_⟩ => by go_simp
          · exact .val 44 _ rfl rfl fun V ⟨y0, y1, y2, y3, y4, y5, y6, y7, y8, y9, y10, y11, y12, y13, y14, y15, y16, x0, x1, x2, x3, x4, x5, x6, x7, x8, x9, hB_⟩ => by go_simp
          · exact .val 45 _ rfl rfl fun V ⟨y0, y1, y2, y3, y4, y5, y6, y7, y8, y9, y10, y11, y12, y13, y14, y15, y16, x0, x1, x2, x3, x4, x5, x6, x7, x8, x9, hB_⟩ => by go_simp
          · exact .val 46 _ rfl rfl fun V ⟨y0, y1, y2, y3, y4, y5, y6, y7, y8, y9, y10, y11, y12, y13, y14, y15, y16, x0, x1, x2, x3, x4, x5, x6, x7, x8, x9, hB_⟩ => by go_simp <;> exact fun hh => absurd hh (by omega)
          · exact .val 47 _ rfl rfl fun V ⟨y0, y1, y2, y3, y4, y5, y6, y7, y8, y9, y10, y11, y12, y13, y14, y15, y16, x0, x1, x2, x3, x4, x5, x6, x7, x8, x9, hB_⟩ => by go_simp
          · exact .val 48 _ rfl rfl fun V ⟨y0, y1, y2, y3, y4, y5, y6, y7, y8, y9, y10, y11, y12, y13, y14, y15, y16, x0, x1, x2, x3, x4, x5, x6, x7, x8, x9, hB_⟩ => by go_simp
          · exact .val 49 _ rfl rfl fun V ⟨y0, y1, y2, y3, y4, y5, y6, y7, y8, y9, y10, y11, y12, y13, y14, y15, y16, x0, x1, x2, x3, x4, x5, x6, x7, x8, x9, hB_⟩ => by go_simp
          · exact .val 50 _ rfl rfl fun V ⟨y0, y1, y2, y3, y4, y5, y6, y7, y8, y9, y10, y11, y12, y13, y14, y15, y16, x0, x1, x2, x3, x4, x5, x6, x7, x8, x9, hB_⟩ => by go_simp
          · exact .val 51 _ rfl rfl fun V ⟨y0, y1, y2, y3, y4, y5, y6, y7, y8, y9, y10, y11, y12, y13, y14, y15, y16, x0, x1, x2, x3, x4, x5, x6, x7, x8, x9, hB_⟩ => by go_simp <;> exact fun hh => absurd hh (by omega)
          · exact .val 52 _ rfl rfl fun V ⟨y0, y1, y2, y3, y4, y5, y6, y7, y8, y9, y10, y11, y12, y13, y14, y15, y16, x0, x1, x2, x3, x4, x5, x6, x7, x8, x9, hB_⟩ => by go_simp
          · refine .call 53 (.bool (muchB pp (wrap64 (cv + wrap64 (x.f7 * sp.f1))))) 31 #[.agg #[.int .i64 pp.f0.f0, .int .i64 pp.f0.f1, .int .i64 pp.f1.f0, .int .i64 pp.f1.f1, .int .i64 pp.f2.f0, .int .i64 pp.f2.f1, .int .i64 pp.f3.f0, .int .i64 pp.f3.f1, .int .i64 pp.f4], .int .i64 (wrap64 (cv + wrap64 (x.f7 * sp.f1)))] rfl rfl (fun V ⟨y0, y1, y2, y3, y4, y5, y6, y7, y8, y9, y10, y11, y12, y13, y14, y15, y16, x0, x1, x2, x3, x4, x5, x6, x7, x8, x9, hB_⟩ => by go_simp) fun V ⟨y0, y1, y2, y3, y4, y5, y6, y7, y8, y9, y10, y11, y12, y13, y14, y15, y16, x0, x1, x2, x3, x4, x5, x6, x7, x8, x9, hB_⟩ => ?_
            refine (much_any pp (wrap64 (cv + wrap64 (x.f7 * sp.f1))) _).mono ?_
            rintro e w' ⟨rfl, hb⟩
            exact ⟨rfl, cell_grow y0 hb, cell_grow y1 hb, cell_grow y2 hb, cell_grow y3 hb, cell_grow y4 hb, cell_grow y5 hb, cell_grow y6 hb, cell_grow y7 hb, cell_grow y8 hb, cell_grow y9 hb, cell_grow y10 hb, cell_grow y11 hb, cell_grow y12 hb, cell_grow y13 hb, cell_grow y14 hb, cell_grow y15 hb, cell_grow y16 hb, cell_grow x0 hb, cell_grow x1 hb, cell_grow x2 hb, cell_grow x3 hb, cell_grow x4 hb, cell_grow x5 hb, cell_grow x6 hb, cell_grow x7 hb, cell_grow x8 hb, cell_grow x9 hb, hB_.trans (hb.mono hB_.size)⟩
        rintro V2 ⟨y0, y1, y2, y3, y4, y5, y6, y7, y8, y9, y10, y11, y12, y13, y14, y15, y16, x0, x1, x2, x3, x4, x5, x6, x7, x8, x9, hB_⟩
        have H9 := hid (show CovI Wa V2 (certK K l (k + 1)) from ⟨H8.out.1.trans (hB_.mono H8.out.1.size), heap_grow H8.out.2 hB_⟩)
        clear hB_ H8 y0 y1 y2 y3 y4 y5 y6 y7 y8 y9 y10 y11 y12 y13 y14 y15 y16 q0 q1 q2 q3 q4 q5 q6 q7 q8 q9
        cases hmu : muchB pp (wrap64 (cv + wrap64 (x.f7 * sp.f1))) with
        | true =>
          have HC := hid (show covI K l = k from covI_at HLT.out (by rw [HHB.out, hmu]) (fun j hj => HN.out j hj))
          clear hmu HHB
          go_wp2
          go_ret
          exact ⟨ret_int HC.out.symm, HB.out.1.trans (H9.out.1.mono HB.out.1.size)⟩
        | false =>
          have HN' := hid (show ∀ j, j < k + 1 → hitB K l j = false from fun j hj => by
            by_cases e : j = k
            · subst e; rw [HHB.out, hmu]
            · exact HN.out j (by omega))
          have hlt := HLT.out
          clear hmu HHB HN
          go_wp2
          go_roundw
          case rel => exact ⟨k + 1, by omega, by go_num, H9, HN'⟩
          case measure => simp [intOf]; omega
      · have d7 : (x.f1 == 7) = false := by simpa using h7
        have HN' := hid (show ∀ j, j < k + 1 → hitB K l j = false from fun j hj => by
          by_cases e : j = k
          · subst e; unfold hitB; rw [HGD.out, d7]; rfl
          · exact HN.out j (by omega))
        have H9 := hid (show CovI Wa W5 (certK K l (k + 1)) by
          have h1 : certK K l (k + 1) = certK K l k := by rw [hct]; unfold certS; rw [if_neg h7]
          rw [h1]; exact H5.out.1)
        have hlt := HLT.out
        clear HN hcl hct h7
        go_wp2
        go_roundw
        case rel => exact ⟨k + 1, by omega, by go_num, H9, HN'⟩
        case measure => simp [intOf]; omega
    · obtain rfl : k = l.length := by omega
      have HC := hid (show covI K l = l.length from covI_none (fun j hj => HN.out j hj))
      have hb0 := heap_grow HE.out.1 HX.out.1
      have y4 := blkCell hb0 4
      simp at y4
      have H9 := hid HX.out.1
      clear hb0 HX HN
      go_wp2
      go_ret
      exact ⟨ret_int HC.out.symm, HB.out.1.trans (H9.out.mono HB.out.1.size)⟩
end Go.Proofs.Ytbmkbokkmmdjdaa
end
section
namespace Go.Proofs.Ytbmkbokkmmdjdaa
open Go.RowKit Go.Proofs.YtbmkbokkmmdjdaaW.PrintWords Go.Proofs.YtbmkbokkmmdjdaaW.PrintLast Go.Proofs.YtbmkbokkmmdjdaaW.PrintMore
open Q Go.Shelf
attribute [local go_sem] Oper.semAt_some wide_depth wide_fn
set_option linter.unusedVariables false
set_option linter.unusedSimpArgs false

theorem claim_ok {ho fi : S23} {l : List S36} (hv : bookErr ho fi l = 0) : ∀ k (h : k < l.length), l[k].f1 = 7 → ∃ p, ((keptOf l).pk.find? fun p => p.1 == l[k].f3) = some p ∧ 0 ≤ p.2.1 ∧ p.2.1 < (keptOf l).ps.length := by
  intro k h h7
  obtain ⟨p0, hf0, _⟩ := (stepOk_all hv k h).claim h7
  have i1 := (pki_take l k (by omega)).pk l[k].f3
  rw [hf0] at i1
  have hfin := pki_take l l.length (Nat.le_refl _)
  rw [List.take_length] at hfin
  have i2 := hfin.pk l[k].f3
  have h2 : l.any (isLot 4 l[k].f3) = true := by
    obtain ⟨y, hy, hp⟩ := List.any_eq_true.1 (show (l.take k).any (isLot 4 l[k].f3) = true from i1.symm)
    exact List.any_eq_true.2 ⟨y, List.mem_of_mem_take hy, hp⟩
  rw [h2] at i2
  obtain ⟨p, hp⟩ := Option.isSome_iff_exists.1 i2
  exact ⟨p, hp, hfin.at_ p (List.mem_of_find?_eq_some hp)⟩
theorem kept_bounds {ho fi : S23} {l : List S36} (hv : bookErr ho fi l = 0) : 1 ≤ (keptOf l).ps.length ∧ (keptOf l).ps.length ≤ 257 ∧ (keptOf l).hs.length ≤ 256 ∧ l.length ≤ 256 := by
  have h1 := kept_len l l.length (Nat.le_refl _)
  rw [List.take_length] at h1
  have h2 := (bookOk_of hv).len
  omega
end Go.Proofs.Ytbmkbokkmmdjdaa
end
