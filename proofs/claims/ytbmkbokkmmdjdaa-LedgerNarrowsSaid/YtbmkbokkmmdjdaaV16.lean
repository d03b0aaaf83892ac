-- B1 B2 B3 B4 B5 FE (wip/pack9.py)
import Derived.Test.YtbmkbokkmmdjdaaV15
import Derived.Test.YtbmkbokkmmdjdaaV5
section
namespace Go.Proofs.Ytbmkbokkmmdjdaa
open Go.RowKit Go.Proofs.YtbmkbokkmmdjdaaW.PrintWords Go.Proofs.YtbmkbokkmmdjdaaW.PrintLast Go.Proofs.YtbmkbokkmmdjdaaW.PrintMore
open Q Go.Shelf
attribute [local go_sem] Oper.semAt_some wide_depth wide_fn
set_option linter.unusedVariables false
set_option linter.unusedSimpArgs false

def foldK {α : Type} (f : S23 → α → S23) (s0 : S23) (l : List α) (k : Nat) : S23 := (l.take k).foldl f s0
def outK {α : Type} (f : S23 → α → S23) (s0 : S23) (l : List α) (k : Nat) : List S23 := (List.range (k + 1)).map (foldK f s0 l)
theorem foldK_succ {α : Type} {f : S23 → α → S23} {s0 : S23} {l : List α} {k : Nat} (h : k < l.length) : foldK f s0 l (k + 1) = f (foldK f s0 l k) l[k] := by
  unfold foldK
  rw [List.take_succ_eq_append_getElem h, List.foldl_append]
  rfl
theorem outK_succ {α : Type} (f : S23 → α → S23) (s0 : S23) (l : List α) (k : Nat) : outK f s0 l (k + 1) = outK f s0 l k ++ [foldK f s0 l (k + 1)] := by
  unfold outK
  rw [List.range_succ, List.map_append]
  rfl
theorem outK_len {α : Type} (f : S23 → α → S23) (s0 : S23) (l : List α) (k : Nat) : (outK f s0 l k).length = k + 1 := by simp [outK]
def AsksF (fid : FuncId) (caps : Array Value) (f : S23 → S23 → S23) (W : World) : Prop :=
  ∀ (s x : S23) (W' : World), Below W.heap.size W W' → Calls Try.prog fid (#[.agg #[.int .i64 s.f0, .int .i64 s.f1], .agg #[.int .i64 x.f0, .int .i64 x.f1]] ++ caps) W' (RetSpan (f s x) W')
theorem AsksF.grow {fid : FuncId} {caps : Array Value} {f : S23 → S23 → S23} {W W' : World} (h : AsksF fid caps f W) (hb : Below W.heap.size W W') : AsksF fid caps f W' :=
  fun s x W2 hb2 => h s x W2 (hb.trans (hb2.mono hb.size))
def RetSpans (l : List S23) (w : World) (e : Ending) (w' : World) : Prop := ∃ v, e = .returned v ∧ w'.ownsRow w.heap.size 23 2 v l.length (sF l) ∧ Below w.heap.size w w'
theorem rd23' {l : List S23} {k : Nat} (h : k < l.length) : rd_T23 l (k : Int) = l[k] := by
  simp [rd_T23, List.getD, h]
set_option maxRecDepth 100000 in
set_option maxHeartbeats 8000000 in
theorem folded_any (fid : FuncId) (caps : Array Value) (henter : ∀ args w, (callFunc fid args).run Try.prog w = .ok (.enter fid args) w) (f : S23 → S23 → S23) (s0 : S23) (A : Option Addr) (c : Nat) (l : List S23) (w : World) (hr : Kd.C k23 w A l.length l) (hl : l.length ≤ 1000000) (hf : AsksF fid caps f w) :
    Calls Try.prog 76 #[.agg #[.int .i64 s0.f0, .int .i64 s0.f1], .slice A l.length c, .func (.func fid) #[] caps] w (RetSpans (outK f s0 l l.length) w) := by
  have hu := Try.underlying23
  have hu1 := Try.underlying96
  have hbel := ((Below.refl w.heap.size w).alloc (Nat.le_refl _) (.cells #[.int .i64 s0.f0, .int .i64 s0.f1] 23)).alloc (by simp) (.cells #[.int .i64 s0.f0, .int .i64 s0.f1] 23)
  have e0 := alloc_old (o' := (.cells #[.int .i64 s0.f0, .int .i64 s0.f1] 23)) (World.alloc_heap_new w (.cells #[.int .i64 s0.f0, .int .i64 s0.f1] 23))
  have e1 := World.alloc_heap_new (w.alloc (.cells #[.int .i64 s0.f0, .int .i64 s0.f1] 23)) (.cells #[.int .i64 s0.f0, .int .i64 s0.f1] 23)
  simp only [World.size_alloc] at e1
  have ho0 : ((w.alloc (.cells #[.int .i64 s0.f0, .int .i64 s0.f1] 23)).alloc (.cells #[.int .i64 s0.f0, .int .i64 s0.f1] 23)).ownsRow (w.heap.size + 1) 23 2 (.slice (some ⟨w.heap.size + 1, 0, none⟩) 1 1) 1 (sF (outK f s0 l 0)) :=
    ⟨rfl, .inr ⟨_, 1, _, rfl, Nat.le_refl _, e1, Nat.le_refl _, by decide, rfl, rfl⟩⟩
  have HF := hid hf
  have HEN := hid henter
  clear hf henter
  go_enter Try.func76, Try.ntmps76
  go_upto_region 2 with fail
  generalize ((w.alloc (.cells #[.int .i64 s0.f0, .int .i64 s0.f1] 23)).alloc (.cells #[.int .i64 s0.f0, .int .i64 s0.f1] 23)) = W2 at *
  have H2 := hid (And.intro hbel (And.intro e0 ho0))
  have HW := hid (Below.refl W2.heap.size W2)
  clear e0 e1 ho0 hbel
  go_wp2_with fail
  go_loopw [7, 14] (fun v7 v14 X => ∃ k : Nat, k ≤ l.length ∧ v14 = .int .i64 k ∧ ∃ A' m' c', v7 = .slice A' m' c' ∧ Hid (Below w.heap.size w X ∧ X.heap[w.heap.size]? = some (.cells #[.int .i64 (foldK f s0 l k).f0, .int .i64 (foldK f s0 l k).f1] 23 (0, 0)) ∧ X.ownsRow (w.heap.size + 1) 23 2 (.slice A' m' c') (k + 1) (sF (outK f s0 l k)))) (fun v7 v14 _ => l.length - (intOf v14).toNat)
  case atStart => exact ⟨0, by omega, rfl, _, _, _, rfl, H2⟩
  case round =>
    obtain ⟨k, hk, rfl, A', m', c', rfl, HX⟩ := hrel
    rename World => Wk
    by_cases hlt : k < l.length
    · obtain ⟨x, hx⟩ : ∃ x, l[k] = x := ⟨_, rfl⟩
      have hcc := at_T23 (Kd.C_below hr HX.out.1) k (by omega) (by omega)
      rw [rd23' hlt, hx] at hcc
      simp only [Int.toNat_natCast] at hcc
      obtain ⟨ad, rfl, k0, k1⟩ := hcc
      have hst := foldK_succ (f := f) (s0 := s0) hlt
      rw [hx] at hst
      generalize foldK f s0 l k = sk at *
      go_upto_region 5 with fail
      obtain ⟨hb0, hx0, ho0⟩ := HX.out
      have hgr := (Below.refl Wk.heap.size Wk).alloc (Nat.le_refl _) (.cells #[.int .i64 x.f0, .int .i64 x.f1] 23)
      have hnew := World.alloc_heap_new Wk (.cells #[.int .i64 x.f0, .int .i64 x.f1] 23)
      have hb5 := hb0.trans (hgr.mono hb0.size)
      have hx5 := heap_grow hx0 hgr
      have ho5 := rings_set ho0 hgr
      have ha5 := HF.out.grow hb5
      generalize Wk.alloc (.cells #[.int .i64 x.f0, .int .i64 x.f1] 23) = W5 at *
      generalize Wk.heap.size = B5 at *
      have y0 := blkCell hx5 0
      have y1 := blkCell hx5 1
      have z0 := blkCell hnew 0
      have z1 := blkCell hnew 1
      simp at y0 y1 z0 z1
      have H5 := hid (And.intro hb5 (And.intro hx5 ho5))
      have HC := hid (ha5 sk x W5 (Below.refl _ _))
      have HST := hid hst
      have hen := HEN.out
      clear hgr hnew hb5 hx5 ho5 ha5 hb0 hx0 ho0 HX k0 k1 hst
      go_wp2_with fail
      refine HC.out.mono ?_
      rintro e W6 ⟨rfl, hb⟩
      rw [← HST.out]
      obtain ⟨sn, hsn⟩ : ∃ sn, foldK f s0 l (k + 1) = sn := ⟨_, rfl⟩
      rw [hsn]
      have HSN := hid hsn
      obtain ⟨hb5, hx5, ho5⟩ := H5.out
      have hb6 := hb5.trans (hb.mono hb5.size)
      have hx6 := heap_grow hx5 hb
      have ho6 := rings_set ho5 hb
      have y0 := blkCell hx6 0
      have y1 := blkCell hx6 1
      have f0 := blkFrozen hx6 0
      have f1 := blkFrozen hx6 1
      simp at y0 y1
      have H6 := hid (And.intro hb6 (And.intro hx6 ho6))
      clear hb hb5 hx5 ho5 hb6 hx6 ho6 H5 HC hen z0 z1 hsn
      go_upto_region 6 with fail
      obtain ⟨hb6, hx6, ho6⟩ := H6.out
      have hne : (Value.slice A' m' c').ownBlock ≠ some w.heap.size := fun e => by have := (ho6.lt _ e).1; omega
      have hx7 := st2_same hx6 (.int .i64 sn.f0) (.int .i64 sn.f1)
      have hb7 := st2_below hb6 (Nat.le_refl _) (.int .i64 sn.f0) (.int .i64 sn.f1)
      have ho7 := ownsRow_setCell_other (a := ⟨w.heap.size, 1, none⟩) (ownsRow_setCell_other (a := ⟨w.heap.size, 0, none⟩) ho6 hne (.int .i64 sn.f0)) hne (.int .i64 sn.f1)
      generalize ((W6.setCell ⟨w.heap.size, 0, none⟩ (.int .i64 sn.f0)).setCell ⟨w.heap.size, 1, none⟩ (.int .i64 sn.f1)) = W7 at *
      have y0 := blkCell hx7 0
      have y1 := blkCell hx7 1
      simp at y0 y1
      have H7 := hid (And.intro hb7 (And.intro hx7 ho7))
      clear hb6 hx6 ho6 H6 hx7 hb7 ho7 hne
      go_wp2_with (at_builtin; refine Hid.out ?_)
      refine hid ?_
      obtain ⟨hb7, hx7, ho7⟩ := H7.out
      have hgr := (Below.refl W7.heap.size W7).alloc (Nat.le_refl _) (.cells #[.int .i64 sn.f0, .int .i64 sn.f1] 23)
      have hnew := World.alloc_heap_new W7 (.cells #[.int .i64 sn.f0, .int .i64 sn.f1] 23)
      have hb8 := hb7.trans (hgr.mono hb7.size)
      have hx8 := heap_grow hx7 hgr
      have ho8 := rings_set ho7 hgr
      have hs8 : w.heap.size + 1 ≤ (W7.alloc (.cells #[.int .i64 sn.f0, .int .i64 sn.f1] 23)).heap.size := by have := hb7.size; simp; omega
      generalize W7.alloc (.cells #[.int .i64 sn.f0, .int .i64 sn.f1] 23) = W8 at *
      generalize W7.heap.size = B8 at *
      obtain ⟨i0, hi, hz0, hz1, hz2⟩ := info23'
      refine wpList_append_own W8 rfl _ _ 96 rfl (w.heap.size + 1) 23 i0 _ 2 16 Try.underlying96 hi hz0 hz1 hz2 rfl (by decide) (.slice A' m' c') (k + 1) (sF (outK f s0 l k)) rfl ho8 ⟨B8, 0, none⟩ 1 1 (sC sn) rfl rfl (row_cells hnew) (by simp [sC, Value.oneCell']) (by unfold maxLen; omega) (by omega) hs8 ?_
      intro v' W9 hown' hgrow _
      obtain ⟨g', cap', rfl⟩ := ownsRow_succ hown'
      have hb9 := hb8.grown hgrow hb8.size (fun j hj => by have := (ho8.lt j hj).1; omega)
      have hx9 := grown_keep ho8 hgrow (by omega) hx8
      have HFF := hid (And.intro hb9 (And.intro hx9 hown'))
      have HLT := hid hlt
      clear hgr hnew hb8 hx8 ho8 hs8 hi hz0 hz1 hz2 hown' hgrow hb9 hx9 hb7 hx7 ho7 H7 y0 y1
      go_wp2
      go_roundw
      case rel => exact ⟨k + 1, by have := HLT.out; omega, by go_num, _, _, _, rfl, hid ⟨HFF.out.1, by rw [HSN.out]; exact HFF.out.2.1, by rw [outK_succ, HSN.out, sF_snoc]; exact HFF.out.2.2⟩⟩
      case measure => have := HLT.out; simp [intOf]; omega
    · obtain rfl : k = l.length := by omega
      go_wp2
      go_ret
      exact ⟨_, rfl, by rw [outK_len]; exact own_lower (by omega) HX.out.2.2, HX.out.1⟩
end Go.Proofs.Ytbmkbokkmmdjdaa
end
section
namespace Go.Proofs.Ytbmkbokkmmdjdaa
open Go.RowKit Go.Proofs.YtbmkbokkmmdjdaaW.PrintWords Go.Proofs.YtbmkbokkmmdjdaaW.PrintLast Go.Proofs.YtbmkbokkmmdjdaaW.PrintMore
open Q Go.Shelf
attribute [local go_sem] Oper.semAt_some wide_depth wide_fn
set_option linter.unusedVariables false
set_option linter.unusedSimpArgs false

def fwdS (al s x : S23) : S23 := if s.f1 < s.f0 then s else meetS (plusS s x) al
theorem enters78 : ∀ args w, (callFunc 78 args).run Try.prog w = .ok (.enter 78 args) w := enters_of Try.func78 (by kernel_rfl) rfl
set_option maxRecDepth 100000 in
set_option maxHeartbeats 2000000 in
set_option pp.deepTerms true in
set_option pp.maxSteps 1000000 in
theorem fwd1_any (s x al : S23) (Ba : Nat) (w : World) (ha : w.heap[Ba]? = some (.cells #[.int .i64 al.f0, .int .i64 al.f1] 23 (0, 0))) : Calls Try.prog 78 #[.agg #[.int .i64 s.f0, .int .i64 s.f1], .agg #[.int .i64 x.f0, .int .i64 x.f1], .pointer (some ⟨Ba, 0, none⟩)] w (RetSpan (fwdS al s x) w) := by
  have hu := Try.underlying23
  have hbel := (((Below.refl w.heap.size w).alloc (Nat.le_refl _) (.cells #[.int .i64 s.f0, .int .i64 s.f1] 23)).alloc (by simp) (.cells #[.int .i64 x.f0, .int .i64 x.f1] 23)).alloc (by simp; omega) (.cells #[.int .i64 0, .int .i64 0] 23)
  have e0 := alloc_old (o' := .cells #[.int .i64 0, .int .i64 0] 23) (alloc_old (o' := .cells #[.int .i64 x.f0, .int .i64 x.f1] 23) (World.alloc_heap_new w (.cells #[.int .i64 s.f0, .int .i64 s.f1] 23)))
  have e1 := alloc_old (o' := .cells #[.int .i64 0, .int .i64 0] 23) (World.alloc_heap_new (w.alloc (.cells #[.int .i64 s.f0, .int .i64 s.f1] 23)) (.cells #[.int .i64 x.f0, .int .i64 x.f1] 23))
  have e2 := World.alloc_heap_new ((w.alloc (.cells #[.int .i64 s.f0, .int .i64 s.f1] 23)).alloc (.cells #[.int .i64 x.f0, .int .i64 x.f1] 23)) (.cells #[.int .i64 0, .int .i64 0] 23)
  have e3 := alloc_old (o' := .cells #[.int .i64 0, .int .i64 0] 23) (alloc_old (o' := .cells #[.int .i64 x.f0, .int .i64 x.f1] 23) (alloc_old (o' := .cells #[.int .i64 s.f0, .int .i64 s.f1] 23) ha))
  simp only [World.size_alloc] at e1 e2
  by_cases h1 : s.f1 < s.f0
  · have d1 : decide (s.f1 < s.f0) = true := decide_eq_true h1
    rw [show fwdS al s x = s by unfold fwdS; rw [if_pos h1]]
    clear h1 e0 e1 e2 e3 hbel
    go_enter Try.func78, Try.ntmps78
    go_wp2
    refine bodyPost_ret (v := .agg #[.int .i64 s.f0, .int .i64 s.f1]) (by simp [results, Try.results78, go_sem]) rfl ⟨rfl, ?_⟩
    exact (((Below.refl w.heap.size w).alloc (Nat.le_refl _) _).alloc (by simp) _).alloc (by simp; omega) _
  · have d1 : decide (s.f1 < s.f0) = false := decide_eq_false h1
    rw [show fwdS al s x = meetS (plusS s x) al by unfold fwdS; rw [if_neg h1]]
    clear h1
    go_enter Try.func78, Try.ntmps78
    go_upto_region 3 with fail
    generalize (((w.alloc (.cells #[.int .i64 s.f0, .int .i64 s.f1] 23)).alloc (.cells #[.int .i64 x.f0, .int .i64 x.f1] 23)).alloc (.cells #[.int .i64 0, .int .i64 0] 23)) = W1 at *
    have y0 := blkCell e0 0
    have y1 := blkCell e0 1
    have y2 := blkCell e1 0
    have y3 := blkCell e1 1
    have y4 := blkCell e3 0
    have y5 := blkCell e3 1
    simp at y0 y1 y2 y3 y4 y5
    have HX := hid (And.intro e2 hbel)
    clear e0 e1 e2 e3 hbel d1
    refine wp_flow [[], [], [0, 1], [], [2, 0, 1, 3], [4, 2, 0, 1, 3]] 5
      (fun V => V.cell? ⟨w.heap.size, 0, none⟩ = some (.int .i64 s.f0) ∧ V.cell? ⟨w.heap.size, 1, none⟩ = some (.int .i64 s.f1) ∧ V.cell? ⟨(w.heap.size + 1), 0, none⟩ = some (.int .i64 x.f0) ∧ V.cell? ⟨(w.heap.size + 1), 1, none⟩ = some (.int .i64 x.f1) ∧ V.cell? ⟨Ba, 0, none⟩ = some (.int .i64 al.f0) ∧ V.cell? ⟨Ba, 1, none⟩ = some (.int .i64 al.f1) ∧ Below W1.heap.size W1 V)
      { tmps := #[.agg #[.int .i64 s.f0, .int .i64 s.f1], .agg #[.int .i64 x.f0, .int .i64 x.f1], .pointer (some ⟨Ba, 0, none⟩), .pointer (some ⟨w.heap.size, 0, none⟩), .pointer (some ⟨(w.heap.size + 1), 0, none⟩), .pointer (some ⟨(w.heap.size + 1 + 1), 0, none⟩), .pointer (some ⟨w.heap.size, 0, none⟩), .int .i64 s.f0, .pointer (some ⟨w.heap.size, 1, none⟩), .int .i64 s.f1, .bool false, undef, .agg #[.int .i64 s.f0, .int .i64 s.f1], .agg #[.int .i64 x.f0, .int .i64 x.f1], .agg #[.int .i64 ((plusS s x).f0), .int .i64 ((plusS s x).f1)], .agg #[.int .i64 al.f0, .int .i64 al.f1], .agg #[.int .i64 ((meetS (plusS s x) al).f0), .int .i64 ((meetS (plusS s x) al).f1)]], defers := [] }
      mixed (by kernel_rfl) rfl (Ahead.of3 12 17 rfl rfl (by kernel_rfl) rfl rfl) ?_ (AllFlow.ops rfl ?_) rfl ?_
    · exact ⟨y0, y1, y2, y3, y4, y5, (Below.refl _ _).drew⟩
    · refine ⟨?_, ?_, ?_, ?_, ?_, trivial⟩
      · exact .val 12 _ rfl rfl fun V ⟨y0, y1, y2, y3, y4, y5, hB_⟩ => by go_simp
      · exact .val 13 _ rfl rfl fun V ⟨y0, y1, y2, y3, y4, y5, hB_⟩ => by go_simp
      · refine .call 14 (.agg #[.int .i64 ((plusS s x).f0), .int .i64 ((plusS s x).f1)]) 58 #[.agg #[.int .i64 s.f0, .int .i64 s.f1], .agg #[.int .i64 x.f0, .int .i64 x.f1]] rfl rfl (fun V ⟨y0, y1, y2, y3, y4, y5, hB_⟩ => by go_simp) fun V ⟨y0, y1, y2, y3, y4, y5, hB_⟩ => ?_
        refine (plus_any s x _).mono ?_
        rintro e w' ⟨rfl, hb⟩
        exact ⟨rfl, cell_grow y0 hb, cell_grow y1 hb, cell_grow y2 hb, cell_grow y3 hb, cell_grow y4 hb, cell_grow y5 hb, hB_.trans (hb.mono hB_.size)⟩
      · exact .val 15 _ rfl rfl fun V ⟨y0, y1, y2, y3, y4, y5, hB_⟩ => by go_simp
      · refine .call 16 (.agg #[.int .i64 ((meetS (plusS s x) al).f0), .int .i64 ((meetS (plusS s x) al).f1)]) 77 #[.agg #[.int .i64 ((plusS s x).f0), .int .i64 ((plusS s x).f1)], .agg #[.int .i64 al.f0, .int .i64 al.f1]] rfl rfl (fun V ⟨y0, y1, y2, y3, y4, y5, hB_⟩ => by go_simp) fun V ⟨y0, y1, y2, y3, y4, y5, hB_⟩ => ?_
        refine (meet_any (plusS s x) al _).mono ?_
        rintro e w' ⟨rfl, hb⟩
        exact ⟨rfl, cell_grow y0 hb, cell_grow y1 hb, cell_grow y2 hb, cell_grow y3 hb, cell_grow y4 hb, cell_grow y5 hb, hB_.trans (hb.mono hB_.size)⟩
    rintro V ⟨y0, y1, y2, y3, y4, y5, hB_⟩
    have e2 := heap_grow HX.out.1 hB_
    have hb := HX.out.2.trans (hB_.mono HX.out.2.size)
    have r0 := blkCell e2 0
    have r1 := blkCell e2 1
    have f0 := blkFrozen e2 0
    have f1 := blkFrozen e2 1
    simp at r0 r1
    have HY := hid (And.intro e2 hb)
    obtain ⟨sm, hsm⟩ : ∃ sm, meetS (plusS s x) al = sm := ⟨_, rfl⟩
    have HSM := hid hsm
    rw [hsm]
    clear e2 hb HX hB_ y0 y1 y2 y3 y4 y5 hsm
    go_wp2
    have hz := st2_same HY.out.1 (.int .i64 sm.f0) (.int .i64 sm.f1)
    have hb := st2_below HY.out.2 (show w.heap.size ≤ w.heap.size + 1 + 1 by omega) (.int .i64 sm.f0) (.int .i64 sm.f1)
    generalize ((V.setCell ⟨w.heap.size + 1 + 1, 0, none⟩ (.int .i64 sm.f0)).setCell ⟨w.heap.size + 1 + 1, 1, none⟩ (.int .i64 sm.f1)) = V2 at *
    have q0 := blkCell hz 0
    have q1 := blkCell hz 1
    simp at q0 q1
    refine bodyPost_ret (v := .agg #[.int .i64 sm.f0, .int .i64 sm.f1]) (by simp [results, Try.results78, go_sem, q0, q1]) rfl ⟨by rw [HSM.out], hb⟩
def forwardL (ho fi : S23) (k : Int) (by_ : List S23) : List S23 := outK (fwdS (alwaysS ho k)) (meetS (firstS fi k) (alwaysS ho k)) by_ by_.length
set_option maxRecDepth 100000 in
set_option maxHeartbeats 2000000 in
theorem forward_any (ho fi : S23) (A : Option Addr) (c : Nat) (l : List S36) (k h : Int) (A2 : Option Addr) (c2 : Nat) (by_ : List S23) (w : World) (hr2 : Kd.C k23 w A2 by_.length by_) (hl2 : by_.length ≤ 1000000) :
    Calls Try.prog 43 #[.agg #[.int .i64 ho.f0, .int .i64 ho.f1, .int .i64 fi.f0, .int .i64 fi.f1, .slice A l.length c], .agg #[.int .u8 k, .int .i64 h], .slice A2 by_.length c2] w (RetSpans (forwardL ho fi k by_) w) := by
  have hu := Try.underlying23
  have hmf := makeFunc_any
  have hbel := ((Below.refl w.heap.size w).alloc (Nat.le_refl _) (.cells #[.int .i64 ho.f0, .int .i64 ho.f1, .int .i64 fi.f0, .int .i64 fi.f1, .slice A l.length c] 26)).alloc (by simp) (.cells #[.int .u8 k, .int .i64 h] 92)
  go_enter Try.func43, Try.ntmps43
  go_wp2_with fail
  generalize ((w.alloc (.cells #[.int .i64 ho.f0, .int .i64 ho.f1, .int .i64 fi.f0, .int .i64 fi.f1, .slice A l.length c] 26)).alloc (.cells #[.int .u8 k, .int .i64 h] 92)) = W1 at *
  refine (limits_any ho fi A c l k h _).mono ?_
  rintro e W2 ⟨rfl, hb⟩
  have hb2 := hbel.trans (hb.mono hbel.size)
  generalize hfs : firstS fi k = fs at *
  generalize hal : alwaysS ho k = al at *
  have HFS := hid hfs
  have HAL := hid hal
  clear hfs hal
  go_upto_region 2 with fail
  have e1 := alloc_old (o' := .cells #[.int .i64 al.f0, .int .i64 al.f1] 23) (World.alloc_heap_new W2 (.cells #[.int .i64 fs.f0, .int .i64 fs.f1] 23))
  have e2 := World.alloc_heap_new (W2.alloc (.cells #[.int .i64 fs.f0, .int .i64 fs.f1] 23)) (.cells #[.int .i64 al.f0, .int .i64 al.f1] 23)
  simp only [World.size_alloc] at e2
  have hb3 := (hb2.alloc hb2.size (.cells #[.int .i64 fs.f0, .int .i64 fs.f1] 23)).alloc (by have := hb2.size; simp; omega) (.cells #[.int .i64 al.f0, .int .i64 al.f1] 23)
  generalize ((W2.alloc (.cells #[.int .i64 fs.f0, .int .i64 fs.f1] 23)).alloc (.cells #[.int .i64 al.f0, .int .i64 al.f1] 23)) = W3 at *
  generalize W2.heap.size = B2 at *
  have y0 := blkCell e1 0
  have y1 := blkCell e1 1
  have y2 := blkCell e2 0
  have y3 := blkCell e2 1
  simp at y0 y1 y2 y3
  have H3 := hid (And.intro hb3 e2)
  clear e1 e2 hb3 hb2 hb hbel
  go_wp2_with fail
  refine (meet_any fs al _).mono ?_
  rintro e W4 ⟨rfl, hb⟩
  have hb4 := H3.out.1.trans (hb.mono H3.out.1.size)
  have e4 := heap_grow H3.out.2 hb
  have HFA := hid (folded_any 78 #[.pointer (some ⟨B2 + 1, 0, none⟩)] enters78 (fwdS al) (meetS fs al) A2 c2 by_ W4 (Kd.C_below hr2 hb4) hl2 (fun s x W' hW' => by
    have := fwd1_any s x al (B2 + 1) W' (heap_grow e4 hW')
    simpa only [List.push_toArray, List.append_toArray, List.cons_append, List.nil_append] using this))
  have H4 := hid hb4
  clear hb hb4 e4 H3 y0 y1 y2 y3
  go_wp2_with fail
  refine HFA.out.mono ?_
  rintro e W5 ⟨v, rfl, ho5, hb⟩
  obtain ⟨A5, c5, rfl⟩ := own_slice ho5
  have H5 := hid (And.intro (own_lower H4.out.size ho5) (H4.out.trans (hb.mono H4.out.size)))
  clear ho5 hb H4 HFA
  go_wp2
  go_ret
  exact ⟨_, rfl, by unfold forwardL; rw [HFS.out, HAL.out]; exact H5.out.1, H5.out.2⟩
end Go.Proofs.Ytbmkbokkmmdjdaa
end
section
namespace Go.Proofs.Ytbmkbokkmmdjdaa
open Go.RowKit Go.Proofs.YtbmkbokkmmdjdaaW.PrintWords Go.Proofs.YtbmkbokkmmdjdaaW.PrintLast Go.Proofs.YtbmkbokkmmdjdaaW.PrintMore
open Q Go.Shelf
attribute [local go_sem] Oper.semAt_some wide_depth wide_fn
set_option linter.unusedVariables false
set_option linter.unusedSimpArgs false

def AsksS (g : Nat) (cap : Array Value) (p : S23 → Bool) (l : List S23) (w : World) : Prop :=
  ∀ (W : World) (x : S23), x ∈ l → Below w.heap.size w W → Calls Try.prog g (#[spanV x] ++ cap) W (RetBool (p x) W)
def idxS (p : S23 → Bool) (l : List S23) : Int := if l.any p = true then (l.findIdx p : Int) else -1
theorem idxS_at {p : S23 → Bool} {l : List S23} {k : Nat} (h : k < l.length) (hp : p l[k] = true) (hn : ∀ j (hj : j < l.length), j < k → p l[j] = false) : idxS p l = k := by
  unfold idxS
  rw [if_pos (any_some h hp)]
  congr 1
  exact (List.findIdx_eq h).2 ⟨hp, fun j hj => hn j (by omega) hj⟩
theorem idxS_none {p : S23 → Bool} {l : List S23} (hn : ∀ j (hj : j < l.length), p l[j] = false) : idxS p l = -1 := by
  unfold idxS
  rw [any_none hn, if_neg (by decide)]
set_option maxRecDepth 100000 in
set_option maxHeartbeats 2000000 in
theorem indexS_any (g : Nat) (cap : Array Value) (eg : ∀ args w, (callFunc g args).run Try.prog w = .ok (.enter g args) w) (p : S23 → Bool) (A1 : Option Addr) (c1 : Nat) (l : List S23) (w : World) (hr : Kd.C k23 w A1 l.length l) (hl : l.length ≤ 1000000) (hp : AsksS g cap p l w) :
    Calls Try.prog 73 #[.slice A1 l.length c1, .func (.func g) #[] cap] w (RetInt (idxS p l) w) := by
  have hu := Try.underlying23
  have HP := hid hp
  have HR := hid hr
  clear hp hr
  go_enter Try.func73, Try.ntmps73
  go_wp2
  go_loopw [8] (fun v8 wr => ∃ k : Nat, k ≤ l.length ∧ v8 = .int .i64 k ∧ Hid (Below w.heap.size w wr) ∧ Hid (∀ (j : Nat) (h : j < l.length), j < k → p l[j] = false)) (fun v8 _ => l.length - (intOf v8).toNat)
  case atStart => exact ⟨0, by omega, rfl, Below.refl _ _, fun _ _ h => absurd h (by omega)⟩
  case round =>
    obtain ⟨k, hk, rfl, HX, HK⟩ := hrel
    by_cases hlt : k < l.length
    · have hc := at_T23 (Kd.C_below HR.out HX.out) k (by omega) (by omega)
      rw [rd23' hlt] at hc
      simp only [Int.toNat_natCast] at hc
      obtain ⟨ad, rfl, k0, k1⟩ := hc
      rename World => Wk
      go_wp2_with fail
      refine (HP.out Wk l[k] (List.getElem_mem hlt) HX.out).mono ?_
      rintro e w' ⟨rfl, hb⟩
      have HB' := hid (HX.out.trans (hb.mono HX.out.size))
      clear hb k0 k1 HX
      cases hpv : p l[k] with
      | true =>
        have HV := hid hpv
        clear hpv
        go_wp2
        go_ret
        exact ⟨ret_int (idxS_at hlt HV.out fun j hj h => HK.out j hj h).symm, HB'.out⟩
      | false =>
        have HK' := hid (show ∀ (j : Nat) (h : j < l.length), j < k + 1 → p l[j] = false from fun j h hj => by
          by_cases e : j = k
          · subst e; exact hpv
          · exact HK.out j h (by omega))
        clear hpv HK
        go_wp2
        go_roundw
        case rel => exact ⟨k + 1, by omega, by go_num, HB', HK'⟩
        case measure => simp [intOf]; omega
    · go_wp2
      go_ret
      exact ⟨ret_int (idxS_none fun j hj => HK.out j hj (by omega)).symm, HX.out⟩

def isWrong (s : S23) : Bool := decide (s.f1 < s.f0)
def wrongS (l : List S23) : Int := idxS isWrong l
theorem enters74 : ∀ args w, (callFunc 74 args).run Try.prog w = .ok (.enter 74 args) w := enters_of Try.func74 (by kernel_rfl) rfl
theorem wrong1_any (s : S23) (W : World) : Calls Try.prog 74 #[.agg #[.int .i64 s.f0, .int .i64 s.f1]] W (RetBool (isWrong s) W) := by
  have hu := Try.underlying23
  have HB := Below.refl W.heap.size W
  unfold isWrong
  go_enter Try.func74, Try.ntmps74
  go_wp2
  go_ret
  exact ⟨by first | rfl | simp, HB.alloc (Nat.le_refl _) _⟩
theorem wrong_any (A : Option Addr) (c : Nat) (l : List S23) (w : World) (hr : Kd.C k23 w A l.length l) (hl : l.length ≤ 1000000) : Calls Try.prog 42 #[.slice A l.length c] w (RetInt (wrongS l) w) := by
  go_enter Try.func42, Try.ntmps42
  have hp : AsksS 74 #[] isWrong l w := fun W x _ _ => by
    have := wrong1_any x W
    simpa only [spanV, List.push_toArray, List.append_toArray, List.cons_append, List.nil_append, List.append_nil, Array.append_empty] using this
  have HI := hid (indexS_any 74 #[] enters74 isWrong A c l w hr hl hp)
  clear hp
  go_wp2_with fail
  refine HI.out.mono ?_
  rintro e W2 ⟨rfl, hb⟩
  have HB := hid hb
  clear hb HI
  go_wp2
  go_ret
  exact ⟨rfl, HB.out⟩
end Go.Proofs.Ytbmkbokkmmdjdaa
end
section
namespace Go.Proofs.Ytbmkbokkmmdjdaa
open Go.RowKit Go.Proofs.YtbmkbokkmmdjdaaW.PrintWords Go.Proofs.YtbmkbokkmmdjdaaW.PrintLast Go.Proofs.YtbmkbokkmmdjdaaW.PrintMore
open Q Go.Shelf
attribute [local go_sem] Oper.semAt_some wide_depth wide_fn
set_option linter.unusedVariables false
set_option linter.unusedSimpArgs false

def tC (s : S23 × S23) : List Value := [.int .i64 s.1.f0, .int .i64 s.1.f1, .int .i64 s.2.f0, .int .i64 s.2.f1]
def tF (l : List (S23 × S23)) : List Value := l.flatMap tC
theorem tF_snoc (l : List (S23 × S23)) (x : S23 × S23) : tF (l ++ [x]) = tF l ++ tC x := by simp [tF]
theorem tF_at {l : List (S23 × S23)} {k j : Nat} (h : k < l.length) (hj : j < 4) : (tF l)[k * 4 + j]? = (tC (l.getD k (z23, z23)))[j]? := by
  induction l generalizing k with
  | nil => simp at h
  | cons x r ih =>
    unfold tF; rw [List.flatMap_cons]
    cases k with
    | zero => rw [Nat.zero_mul, Nat.zero_add, List.getElem?_append_left (by simp [tC]; omega)]; rfl
    | succ k =>
      rw [List.getElem?_append_right (by simp [tC]; omega), show (k + 1) * 4 + j - (tC x).length = k * 4 + j by simp [tC]; omega]
      simp at h
      exact ih (by omega)
def AsksT (fid : FuncId) (caps : Array Value) (f : S23 → S23 × S23 → S23) (W : World) : Prop :=
  ∀ (s : S23) (x : S23 × S23) (W' : World), Below W.heap.size W W' → Calls Try.prog fid (#[.agg #[.int .i64 s.f0, .int .i64 s.f1], .agg #[.int .i64 x.1.f0, .int .i64 x.1.f1, .int .i64 x.2.f0, .int .i64 x.2.f1]] ++ caps) W' (RetSpan (f s x) W')
theorem AsksT.grow {fid : FuncId} {caps : Array Value} {f : S23 → S23 × S23 → S23} {W W' : World} (h : AsksT fid caps f W) (hb : Below W.heap.size W W') : AsksT fid caps f W' :=
  fun s x W2 hb2 => h s x W2 (hb.trans (hb2.mono hb.size))
set_option maxRecDepth 100000 in
set_option maxHeartbeats 8000000 in
theorem foldedT_any (fid : FuncId) (caps : Array Value) (henter : ∀ args w, (callFunc fid args).run Try.prog w = .ok (.enter fid args) w) (f : S23 → S23 × S23 → S23) (s0 : S23) (A : Option Addr) (c : Nat) (l : List (S23 × S23)) (w : World) (hr : w.ownsRow 0 138 4 (.slice A l.length c) l.length (tF l)) (hl : l.length ≤ 1000000) (hf : AsksT fid caps f w) :
    Calls Try.prog 79 #[.agg #[.int .i64 s0.f0, .int .i64 s0.f1], .slice A l.length c, .func (.func fid) #[] caps] w (RetSpans (outK f s0 l l.length) w) := by
  have hu := Try.underlying23
  have hu1 := Try.underlying96
  have hu2 := Try.underlying138
  have hu3 := Try.underlying136
  have hbel := ((Below.refl w.heap.size w).alloc (Nat.le_refl _) (.cells #[.int .i64 s0.f0, .int .i64 s0.f1] 23)).alloc (by simp) (.cells #[.int .i64 s0.f0, .int .i64 s0.f1] 23)
  have e0 := alloc_old (o' := (.cells #[.int .i64 s0.f0, .int .i64 s0.f1] 23)) (World.alloc_heap_new w (.cells #[.int .i64 s0.f0, .int .i64 s0.f1] 23))
  have e1 := World.alloc_heap_new (w.alloc (.cells #[.int .i64 s0.f0, .int .i64 s0.f1] 23)) (.cells #[.int .i64 s0.f0, .int .i64 s0.f1] 23)
  simp only [World.size_alloc] at e1
  have ho0 : ((w.alloc (.cells #[.int .i64 s0.f0, .int .i64 s0.f1] 23)).alloc (.cells #[.int .i64 s0.f0, .int .i64 s0.f1] 23)).ownsRow (w.heap.size + 1) 23 2 (.slice (some ⟨w.heap.size + 1, 0, none⟩) 1 1) 1 (sF (outK f s0 l 0)) :=
    ⟨rfl, .inr ⟨_, 1, _, rfl, Nat.le_refl _, e1, Nat.le_refl _, by decide, rfl, rfl⟩⟩
  have HF := hid hf
  have HEN := hid henter
  clear hf henter
  go_enter Try.func79, Try.ntmps79
  go_upto_region 2 with fail
  generalize ((w.alloc (.cells #[.int .i64 s0.f0, .int .i64 s0.f1] 23)).alloc (.cells #[.int .i64 s0.f0, .int .i64 s0.f1] 23)) = W2 at *
  have H2 := hid (And.intro hbel (And.intro e0 ho0))
  have HW := hid (Below.refl W2.heap.size W2)
  clear e0 e1 ho0 hbel
  go_wp2_with fail
  go_loopw [7, 14] (fun v7 v14 X => ∃ k : Nat, k ≤ l.length ∧ v14 = .int .i64 k ∧ ∃ A' m' c', v7 = .slice A' m' c' ∧ Hid (Below w.heap.size w X ∧ X.heap[w.heap.size]? = some (.cells #[.int .i64 (foldK f s0 l k).f0, .int .i64 (foldK f s0 l k).f1] 23 (0, 0)) ∧ X.ownsRow (w.heap.size + 1) 23 2 (.slice A' m' c') (k + 1) (sF (outK f s0 l k)))) (fun v7 v14 _ => l.length - (intOf v14).toNat)
  case atStart => exact ⟨0, by omega, rfl, _, _, _, rfl, H2⟩
  case round =>
    obtain ⟨k, hk, rfl, A', m', c', rfl, HX⟩ := hrel
    rename World => Wk
    by_cases hlt : k < l.length
    · obtain ⟨x, hx⟩ : ∃ x, l[k] = x := ⟨_, rfl⟩
      have hkd : l.getD k (z23, z23) = x := by rw [← hx]; simp [List.getD, hlt]
      obtain ⟨ga, gc, hga⟩ : ∃ ga gc, A = some ⟨ga, 0, none⟩ ∧ gc = c := by
        rcases hr.2 with ⟨h1, h2⟩ | ⟨g1, c1, u1, h1, _⟩
        · injection h1 with e1 e2 e3; omega
        · injection h1 with e1 e2 e3; exact ⟨g1, c1, e1, e3.symm⟩
      obtain ⟨rfl, rfl⟩ := hga
      have hq : ∀ j, j < 4 → Wk.cell? ⟨ga, k * 4 + j, none⟩ = (tC x)[j]? := fun j hj => by
        have e := hr.cellAt (k * 4 + j) (by omega)
        rw [tF_at hlt hj, hkd] at e
        rw [← e]
        exact HX.out.1.cell (p := ⟨ga, k * 4 + j, none⟩) (hr.lt ga rfl).2
      have k0 : Wk.cell? ⟨ga, k * 4, none⟩ = some (.int .i64 x.1.f0) := hq 0 (by omega)
      have k1 := hq 1 (by omega)
      have k2 := hq 2 (by omega)
      have k3 := hq 3 (by omega)
      simp [tC] at k1 k2 k3
      clear hq hkd
      have hst := foldK_succ (f := f) (s0 := s0) hlt
      rw [hx] at hst
      generalize foldK f s0 l k = sk at *
      go_upto_region 5 with fail
      obtain ⟨hb0, hx0, ho0⟩ := HX.out
      have hgr := (Below.refl Wk.heap.size Wk).alloc (Nat.le_refl _) (.cells #[.int .i64 x.1.f0, .int .i64 x.1.f1, .int .i64 x.2.f0, .int .i64 x.2.f1] 138)
      have hnew := World.alloc_heap_new Wk (.cells #[.int .i64 x.1.f0, .int .i64 x.1.f1, .int .i64 x.2.f0, .int .i64 x.2.f1] 138)
      have hb5 := hb0.trans (hgr.mono hb0.size)
      have hx5 := heap_grow hx0 hgr
      have ho5 := rings_set ho0 hgr
      have ha5 := HF.out.grow hb5
      generalize Wk.alloc (.cells #[.int .i64 x.1.f0, .int .i64 x.1.f1, .int .i64 x.2.f0, .int .i64 x.2.f1] 138) = W5 at *
      generalize Wk.heap.size = B5 at *
      have y0 := blkCell hx5 0
      have y1 := blkCell hx5 1
      have z0 := blkCell hnew 0
      have z1 := blkCell hnew 1
      have z2 := blkCell hnew 2
      have z3 := blkCell hnew 3
      simp at y0 y1 z0 z1 z2 z3
      have H5 := hid (And.intro hb5 (And.intro hx5 ho5))
      have HC := hid (ha5 sk x W5 (Below.refl _ _))
      have HST := hid hst
      have hen := HEN.out
      clear hgr hnew hb5 hx5 ho5 ha5 hb0 hx0 ho0 HX k0 k1 k2 k3 hst
      go_wp2_with fail
      refine HC.out.mono ?_
      rintro e W6 ⟨rfl, hb⟩
      rw [← HST.out]
      obtain ⟨sn, hsn⟩ : ∃ sn, foldK f s0 l (k + 1) = sn := ⟨_, rfl⟩
      rw [hsn]
      have HSN := hid hsn
      obtain ⟨hb5, hx5, ho5⟩ := H5.out
      have hb6 := hb5.trans (hb.mono hb5.size)
      have hx6 := heap_grow hx5 hb
      have ho6 := rings_set ho5 hb
      have y0 := blkCell hx6 0
      have y1 := blkCell hx6 1
      have f0 := blkFrozen hx6 0
      have f1 := blkFrozen hx6 1
      simp at y0 y1
      have H6 := hid (And.intro hb6 (And.intro hx6 ho6))
      clear hb hb5 hx5 ho5 hb6 hx6 ho6 H5 HC hen z0 z1 z2 z3 hsn
      go_upto_region 6 with fail
      obtain ⟨hb6, hx6, ho6⟩ := H6.out
      have hne : (Value.slice A' m' c').ownBlock ≠ some w.heap.size := fun e => by have := (ho6.lt _ e).1; omega
      have hx7 := st2_same hx6 (.int .i64 sn.f0) (.int .i64 sn.f1)
      have hb7 := st2_below hb6 (Nat.le_refl _) (.int .i64 sn.f0) (.int .i64 sn.f1)
      have ho7 := ownsRow_setCell_other (a := ⟨w.heap.size, 1, none⟩) (ownsRow_setCell_other (a := ⟨w.heap.size, 0, none⟩) ho6 hne (.int .i64 sn.f0)) hne (.int .i64 sn.f1)
      generalize ((W6.setCell ⟨w.heap.size, 0, none⟩ (.int .i64 sn.f0)).setCell ⟨w.heap.size, 1, none⟩ (.int .i64 sn.f1)) = W7 at *
      have y0 := blkCell hx7 0
      have y1 := blkCell hx7 1
      simp at y0 y1
      have H7 := hid (And.intro hb7 (And.intro hx7 ho7))
      clear hb6 hx6 ho6 H6 hx7 hb7 ho7 hne
      go_wp2_with (at_builtin; refine Hid.out ?_)
      refine hid ?_
      obtain ⟨hb7, hx7, ho7⟩ := H7.out
      have hgr := (Below.refl W7.heap.size W7).alloc (Nat.le_refl _) (.cells #[.int .i64 sn.f0, .int .i64 sn.f1] 23)
      have hnew := World.alloc_heap_new W7 (.cells #[.int .i64 sn.f0, .int .i64 sn.f1] 23)
      have hb8 := hb7.trans (hgr.mono hb7.size)
      have hx8 := heap_grow hx7 hgr
      have ho8 := rings_set ho7 hgr
      have hs8 : w.heap.size + 1 ≤ (W7.alloc (.cells #[.int .i64 sn.f0, .int .i64 sn.f1] 23)).heap.size := by have := hb7.size; simp; omega
      generalize W7.alloc (.cells #[.int .i64 sn.f0, .int .i64 sn.f1] 23) = W8 at *
      generalize W7.heap.size = B8 at *
      obtain ⟨i0, hi, hz0, hz1, hz2⟩ := info23'
      refine wpList_append_own W8 rfl _ _ 96 rfl (w.heap.size + 1) 23 i0 _ 2 16 Try.underlying96 hi hz0 hz1 hz2 rfl (by decide) (.slice A' m' c') (k + 1) (sF (outK f s0 l k)) rfl ho8 ⟨B8, 0, none⟩ 1 1 (sC sn) rfl rfl (row_cells hnew) (by simp [sC, Value.oneCell']) (by unfold maxLen; omega) (by omega) hs8 ?_
      intro v' W9 hown' hgrow _
      obtain ⟨g', cap', rfl⟩ := ownsRow_succ hown'
      have hb9 := hb8.grown hgrow hb8.size (fun j hj => by have := (ho8.lt j hj).1; omega)
      have hx9 := grown_keep ho8 hgrow (by omega) hx8
      have HFF := hid (And.intro hb9 (And.intro hx9 hown'))
      have HLT := hid hlt
      clear hgr hnew hb8 hx8 ho8 hs8 hi hz0 hz1 hz2 hown' hgrow hb9 hx9 hb7 hx7 ho7 H7 y0 y1
      go_wp2
      go_roundw
      case rel => exact ⟨k + 1, by have := HLT.out; omega, by go_num, _, _, _, rfl, hid ⟨HFF.out.1, by rw [HSN.out]; exact HFF.out.2.1, by rw [outK_succ, HSN.out, sF_snoc]; exact HFF.out.2.2⟩⟩
      case measure => have := HLT.out; simp [intOf]; omega
    · obtain rfl : k = l.length := by omega
      go_wp2
      go_ret
      exact ⟨_, rfl, by rw [outK_len]; exact own_lower (by omega) HX.out.2.2, HX.out.1⟩
end Go.Proofs.Ytbmkbokkmmdjdaa
end
section
namespace Go.Proofs.Ytbmkbokkmmdjdaa
open Go.RowKit Go.Proofs.YtbmkbokkmmdjdaaW.PrintWords Go.Proofs.YtbmkbokkmmdjdaaW.PrintLast Go.Proofs.YtbmkbokkmmdjdaaW.PrintMore
open Q Go.Shelf
attribute [local go_sem] Oper.semAt_some wide_depth wide_fn
set_option linter.unusedVariables false
set_option linter.unusedSimpArgs false

def bothS (s : S23) (x : S23 × S23) : S23 := meetS x.1 (plusS s (minusS x.2))
theorem enters80 : ∀ args w, (callFunc 80 args).run Try.prog w = .ok (.enter 80 args) w := enters_of Try.func80 (by kernel_rfl) rfl
set_option maxRecDepth 100000 in
set_option maxHeartbeats 2000000 in
set_option pp.deepTerms true in
set_option pp.maxSteps 1000000 in
theorem both1_any (s : S23) (x : S23 × S23) (w : World) : Calls Try.prog 80 #[.agg #[.int .i64 s.f0, .int .i64 s.f1], .agg #[.int .i64 x.1.f0, .int .i64 x.1.f1, .int .i64 x.2.f0, .int .i64 x.2.f1]] w (RetSpan (bothS s x) w) := by
  have hu := Try.underlying23
  have hu1 := Try.underlying138
  have hbel := (((Below.refl w.heap.size w).alloc (Nat.le_refl _) (.cells #[.int .i64 s.f0, .int .i64 s.f1] 23)).alloc (by simp) (.cells #[.int .i64 x.1.f0, .int .i64 x.1.f1, .int .i64 x.2.f0, .int .i64 x.2.f1] 138)).alloc (by simp; omega) (.cells #[.int .i64 0, .int .i64 0] 23)
  have e0 := alloc_old (o' := (.cells #[.int .i64 0, .int .i64 0] 23)) (alloc_old (o' := (.cells #[.int .i64 x.1.f0, .int .i64 x.1.f1, .int .i64 x.2.f0, .int .i64 x.2.f1] 138)) (World.alloc_heap_new w (.cells #[.int .i64 s.f0, .int .i64 s.f1] 23)))
  have e1 := alloc_old (o' := (.cells #[.int .i64 0, .int .i64 0] 23)) (World.alloc_heap_new (w.alloc (.cells #[.int .i64 s.f0, .int .i64 s.f1] 23)) (.cells #[.int .i64 x.1.f0, .int .i64 x.1.f1, .int .i64 x.2.f0, .int .i64 x.2.f1] 138))
  have e2 := World.alloc_heap_new ((w.alloc (.cells #[.int .i64 s.f0, .int .i64 s.f1] 23)).alloc (.cells #[.int .i64 x.1.f0, .int .i64 x.1.f1, .int .i64 x.2.f0, .int .i64 x.2.f1] 138)) (.cells #[.int .i64 0, .int .i64 0] 23)
  simp only [World.size_alloc] at e1 e2
  go_enter Try.func80, Try.ntmps80
  go_upto_region 1 with fail
  generalize (((w.alloc (.cells #[.int .i64 s.f0, .int .i64 s.f1] 23)).alloc (.cells #[.int .i64 x.1.f0, .int .i64 x.1.f1, .int .i64 x.2.f0, .int .i64 x.2.f1] 138)).alloc (.cells #[.int .i64 0, .int .i64 0] 23)) = W1 at *
  have y0 := blkCell e0 0
  have y1 := blkCell e0 1
  have y2 := blkCell e1 0
  have y3 := blkCell e1 1
  have y4 := blkCell e1 2
  have y5 := blkCell e1 3
  simp at y0 y1 y2 y3 y4 y5
  have HX := hid (And.intro e2 hbel)
  clear e0 e1 e2 hbel
  refine wp_flow [[], [0], [], [], [3], [4, 3], [2, 5, 4, 3], [1, 0, 6, 2, 5, 4, 3], [7, 1, 0, 6, 2, 5, 4, 3]] 8
    (fun V => V.cell? ⟨w.heap.size, 0, none⟩ = some (.int .i64 s.f0) ∧ V.cell? ⟨w.heap.size, 1, none⟩ = some (.int .i64 s.f1) ∧ V.cell? ⟨(w.heap.size + 1), 0, none⟩ = some (.int .i64 x.1.f0) ∧ V.cell? ⟨(w.heap.size + 1), 1, none⟩ = some (.int .i64 x.1.f1) ∧ V.cell? ⟨(w.heap.size + 1), 2, none⟩ = some (.int .i64 x.2.f0) ∧ V.cell? ⟨(w.heap.size + 1), 3, none⟩ = some (.int .i64 x.2.f1) ∧ Below W1.heap.size W1 V)
    { tmps := #[.agg #[.int .i64 s.f0, .int .i64 s.f1], .agg #[.int .i64 x.1.f0, .int .i64 x.1.f1, .int .i64 x.2.f0, .int .i64 x.2.f1], .pointer (some ⟨w.heap.size, 0, none⟩), .pointer (some ⟨(w.heap.size + 1), 0, none⟩), .pointer (some ⟨(w.heap.size + 1 + 1), 0, none⟩), .pointer (some ⟨(w.heap.size + 1), 0, none⟩), .agg #[.int .i64 x.1.f0, .int .i64 x.1.f1], .agg #[.int .i64 s.f0, .int .i64 s.f1], .pointer (some ⟨(w.heap.size + 1), 2, none⟩), .agg #[.int .i64 x.2.f0, .int .i64 x.2.f1], .agg #[.int .i64 ((minusS x.2).f0), .int .i64 ((minusS x.2).f1)], .agg #[.int .i64 ((plusS s (minusS x.2)).f0), .int .i64 ((plusS s (minusS x.2)).f1)], .agg #[.int .i64 ((meetS x.1 (plusS s (minusS x.2))).f0), .int .i64 ((meetS x.1 (plusS s (minusS x.2))).f1)]], defers := [] }
    mixed (by kernel_rfl) rfl (Ahead.of3 5 13 rfl rfl (by kernel_rfl) rfl rfl) ?_ (AllFlow.ops rfl ?_) rfl ?_
  · exact ⟨y0, y1, y2, y3, y4, y5, (Below.refl _ _).drew⟩
  · refine ⟨?_, ?_, ?_, ?_, ?_, ?_, ?_, ?_, trivial⟩
    · exact .val 5 _ rfl rfl fun V ⟨y0, y1, y2, y3, y4, y5, hB_⟩ => by go_simp
    · exact .val 6 _ rfl rfl fun V ⟨y0, y1, y2, y3, y4, y5, hB_⟩ => by go_simp
    · exact .val 7 _ rfl rfl fun V ⟨y0, y1, y2, y3, y4, y5, hB_⟩ => by go_simp
    · exact .val 8 _ rfl rfl fun V ⟨y0, y1, y2, y3, y4, y5, hB_⟩ => by go_simp
    · exact .val 9 _ rfl rfl fun V ⟨y0, y1, y2, y3, y4, y5, hB_⟩ => by go_simp
    · refine .call 10 (.agg #[.int .i64 ((minusS x.2).f0), .int .i64 ((minusS x.2).f1)]) 72 #[.agg #[.int .i64 x.2.f0, .int .i64 x.2.f1]] rfl rfl (fun V ⟨y0, y1, y2, y3, y4, y5, hB_⟩ => by go_simp) fun V ⟨y0, y1, y2, y3, y4, y5, hB_⟩ => ?_
      refine (minus_any x.2 _).mono ?_
      rintro e w' ⟨rfl, hb⟩
      exact ⟨rfl, cell_grow y0 hb, cell_grow y1 hb, cell_grow y2 hb, cell_grow y3 hb, cell_grow y4 hb, cell_grow y5 hb, hB_.trans (hb.mono hB_.size)⟩
    · refine .call 11 (.agg #[.int .i64 ((plusS s (minusS x.2)).f0), .int .i64 ((plusS s (minusS x.2)).f1)]) 58 #[.agg #[.int .i64 s.f0, .int .i64 s.f1], .agg #[.int .i64 ((minusS x.2).f0), .int .i64 ((minusS x.2).f1)]] rfl rfl (fun V ⟨y0, y1, y2, y3, y4, y5, hB_⟩ => by go_simp) fun V ⟨y0, y1, y2, y3, y4, y5, hB_⟩ => ?_
      refine (plus_any s (minusS x.2) _).mono ?_
      rintro e w' ⟨rfl, hb⟩
      exact ⟨rfl, cell_grow y0 hb, cell_grow y1 hb, cell_grow y2 hb, cell_grow y3 hb, cell_grow y4 hb, cell_grow y5 hb, hB_.trans (hb.mono hB_.size)⟩
    · refine .call 12 (.agg #[.int .i64 ((meetS x.1 (plusS s (minusS x.2))).f0), .int .i64 ((meetS x.1 (plusS s (minusS x.2))).f1)]) 77 #[.agg #[.int .i64 x.1.f0, .int .i64 x.1.f1], .agg #[.int .i64 ((plusS s (minusS x.2)).f0), .int .i64 ((plusS s (minusS x.2)).f1)]] rfl rfl (fun V ⟨y0, y1, y2, y3, y4, y5, hB_⟩ => by go_simp) fun V ⟨y0, y1, y2, y3, y4, y5, hB_⟩ => ?_
      refine (meet_any x.1 (plusS s (minusS x.2)) _).mono ?_
      rintro e w' ⟨rfl, hb⟩
      exact ⟨rfl, cell_grow y0 hb, cell_grow y1 hb, cell_grow y2 hb, cell_grow y3 hb, cell_grow y4 hb, cell_grow y5 hb, hB_.trans (hb.mono hB_.size)⟩
  rintro V ⟨y0, y1, y2, y3, y4, y5, hB_⟩
  have e2 := heap_grow HX.out.1 hB_
  have hb := HX.out.2.trans (hB_.mono HX.out.2.size)
  have r0 := blkCell e2 0
  have r1 := blkCell e2 1
  have f0 := blkFrozen e2 0
  have f1 := blkFrozen e2 1
  simp at r0 r1
  have HY := hid (And.intro e2 hb)
  have HG := hid (show bothS s x = meetS x.1 (plusS s (minusS x.2)) from rfl)
  obtain ⟨sm, hsm⟩ : ∃ sm, meetS x.1 (plusS s (minusS x.2)) = sm := ⟨_, rfl⟩
  have HSM := hid hsm
  rw [hsm]
  clear e2 hb HX hB_ y0 y1 y2 y3 y4 y5 hsm
  go_wp2
  have hz := st2_same HY.out.1 (.int .i64 sm.f0) (.int .i64 sm.f1)
  have hb := st2_below HY.out.2 (show w.heap.size ≤ w.heap.size + 1 + 1 by omega) (.int .i64 sm.f0) (.int .i64 sm.f1)
  generalize ((V.setCell ⟨w.heap.size + 1 + 1, 0, none⟩ (.int .i64 sm.f0)).setCell ⟨w.heap.size + 1 + 1, 1, none⟩ (.int .i64 sm.f1)) = V2 at *
  have q0 := blkCell hz 0
  have q1 := blkCell hz 1
  simp at q0 q1
  refine bodyPost_ret (v := .agg #[.int .i64 sm.f0, .int .i64 sm.f1]) (by simp [results, Try.results80, go_sem, q0, q1]) rfl ⟨by rw [HG.out, HSM.out], hb⟩
end Go.Proofs.Ytbmkbokkmmdjdaa
end
section
namespace Go.Proofs.Ytbmkbokkmmdjdaa
open Go.RowKit Go.Proofs.YtbmkbokkmmdjdaaW.PrintWords Go.Proofs.YtbmkbokkmmdjdaaW.PrintLast Go.Proofs.YtbmkbokkmmdjdaaW.PrintMore
open Q Go.Shelf
attribute [local go_sem] Oper.semAt_some wide_depth wide_fn
set_option linter.unusedVariables false
set_option linter.unusedSimpArgs false
def SkipOp (P : Program) (ops : Array Oper) (S : World → Prop) (S1 : Value → World → Prop) (T : Act) (o : Oper) : Prop :=
  Region.wanted o (yielded ops T.tmps) = true ∧ o.dst = none ∧ ∀ W, S W → ∃ W', (execOp T.eval o).run P W = .ok .skip W' ∧ S1 undef W'
theorem wp_flow9 {P : Program} {id : Nat} {ops : Array Oper} {Q : Exit → Act → World → Prop} {a : Act} {w : World} (anc : List (List Nat)) (e : Nat) (S : World → Prop) (S1 : Value → World → Prop) (T : Act) {oe : Oper}
    (hm : P.follows .mixedOrders = true) (hb : flowB ops anc (e + 1) = true) (hoe : ops[e]? = some oe) (hA : Ahead ops e T a) (hS : S w.drew)
    (hop : ∀ i o, i < e → ops[i]? = some o → (i ∈ anc.getD e [] ∧ FlowOp P ops S T o) ∨ EitherOp P ops S S1 T o) (hev : SkipOp P ops S S1 T oe)
    {tl : List Oper} (htl : ops.toList.drop (e + 1) = tl) (hT : ∀ u w, S1 u w → wpList P ops Q tl (T.put oe.dst u) w) :
    (Code.region id ops true).wp P Q a w := by
  have hok := FlowOk.of hb
  have helt := (Array.getElem?_eq_some_iff.1 hoe).1
  have hf : ∀ j, (Array.replicate ops.size false).getD j false = false := fun j => by
    simp [Array.getD_eq_getD_getElem?, Array.getElem?_replicate]
    split <;> rfl
  refine wp_region_any hm (anyG_wp _ _ _ _ (any_flow2 (T := T) (S := S) (S1 := S1) hoe hok (fun i o hi ho K a w hl hs hd hS hK => flow_op ho (hok.plain i o ho) ?_ hl hs hd hS hK) (fun K a w hl hs hd hS hK => ?_) (fun u i o hi hna ho K a w hl hs hd hS hK => flow_op ho (hok.plain i o ho) ?_ hl hs hd hS hK)
    (fun u w hS => seqG_wp _ _ _ (by rw [range_drop, wpOps_eq_wpList _ _ (drop_get (e + 1)), htl]; exact hT u w hS)) (fun i K K' a w h => wpOp_mono h) _ _ _ _ (by simp) (by simp [List.countP_replicate]) (fun i hi => by rw [hf i] at hi; cases hi) (fun j _ => hf j) ⟨hA.1, hA.2.1, fun t ht => hA.2.2 t fun j o hj ho hd => by have := ht j o hj ho hd; rw [hf j] at this; cases this⟩ hS))
  · rcases hop i o hi ho with h | h
    · exact h.2
    · exact h.1
  · unfold wpOp
    simp only [hoe]
    rw [wanted_of_looks hl, if_pos hev.1]
    refine .inl ?_
    unfold Oper.wp
    rw [execOp_congr oe (plain_select (hok.plain e oe hoe)) (eval_of_looks hl)]
    obtain ⟨W', hr, hS'⟩ := hev.2.2 w hS
    rw [hr]
    exact hK undef W' hS'
  · rcases hop i o hi ho with h | h
    · exact absurd h.1 hna
    · refine (h.2 u).behind (fun t ht hd => ?_) (fun d hd hd' => ?_) (hok.plain i o ho)
      · have h1 := hok.looks i o ho t ht e oe (by omega) hoe hd
        exact absurd (back_anc hok i o ho e h1) (by omega)
      · exact hok.dst i o ho e oe hoe (by omega) d hd hd'
end Go.Proofs.Ytbmkbokkmmdjdaa
end
