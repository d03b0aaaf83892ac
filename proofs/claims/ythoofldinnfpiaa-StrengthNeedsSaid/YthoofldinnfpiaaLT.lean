import Derived.Test.YthoofldinnfpiaaPA
namespace Go.Proofs.Ythoofldinnfpiaa
open Go.RowKit Go.Proofs.YthoofldinnfpiaaW.PrintWords Go.Proofs.YthoofldinnfpiaaW.PrintLast Go.Proofs.YthoofldinnfpiaaW.PrintMore
open Q Go.Shelf
attribute [local go_sem] Oper.semAt_some wide_depth wide_fn
set_option linter.unusedVariables false
theorem field29_b (a b : Int) (w : World) : (Instr.field 29 (.agg #[.int .i64 a, .int .i64 b]) 0).run Try.prog w = .ok (.int .i64 a) w := by kernel_rfl
attribute [local go_sem] field29_b
/- lightest -/
def litAt (x : Int) (y : S82 × Int) : Bool := !(decide (thickLo y.1 x < y.2))
def lit (l : List S82) (nd : List Int) (x : Int) : Bool := (l.zip nd).all (litAt x)
structure LitB (w : World) (x : Int) (b : Bool) (Bn : Nat) (A9 : Option Addr) (cd : Nat) (nd : List Int) (W : World) : Prop where
  h1 : W.heap[w.heap.size]? = some (.cells #[.int .i64 x] 3 (0, 0))
  h2 : W.heap[w.heap.size + 1]? = some (.cells #[.bool b] 4 (0, 0))
  h3 : W.heap[Bn]? = some (.cells #[.slice A9 nd.length cd] 30 (0, 0))
  hb : Below w.heap.size w W
theorem LitB.turn {w W W' : World} {x : Int} {b : Bool} {Bn : Nat} {A9 : Option Addr} {cd : Nat} {nd : List Int} (h : LitB w x b Bn A9 cd nd W) {B : Nat} (hB : w.heap.size ≤ B) (ht : Turn B W W') : LitB w x b Bn A9 cd nd W' :=
  ⟨ht.cells _ _ h.h1 rfl, ht.cells _ _ h.h2 rfl, ht.cells _ _ h.h3 rfl, h.hb.trans (ht.below.mono hB)⟩
theorem LitB.grow {w W W' : World} {x : Int} {b : Bool} {Bn : Nat} {A9 : Option Addr} {cd : Nat} {nd : List Int} (h : LitB w x b Bn A9 cd nd W) (hb : Below W.heap.size W W') : LitB w x b Bn A9 cd nd W' :=
  ⟨heap_grow h.h1 hb, heap_grow h.h2 hb, heap_grow h.h3 hb, h.hb.trans (hb.mono h.hb.size)⟩
def LitI (w : World) (Bb : Nat) (A : Option Addr) (c : Nat) (l : List S82) (fl tg x : Int) (Bn : Nat) (A9 : Option Addr) (cd : Nat) (nd : List Int) (k : Nat) (W : World) : Prop :=
  Reads Bb A c l fl tg W ∧ LitB w x false Bn A9 cd nd W ∧ ∀ (j : Nat) (h : j < l.length) (h' : j < nd.length), j < k → litAt x (l[j], nd[j]) = true
def LitR (w : World) (l : List S82) (x : Int) (Bn : Nat) (A9 : Option Addr) (cd : Nat) (nd : List Int) (c : Code) (W : World) : Prop :=
  c = .ret ∧ LitB w x false Bn A9 cd nd W ∧ lit l nd x = false
set_option maxRecDepth 100000 in
set_option maxHeartbeats 4000000 in
theorem light1_any (A : Option Addr) (c : Nat) (l : List S82) (fl tg x : Int) (Bq Bn : Nat) (A9 : Option Addr) (cd : Nat) (nd : List Int) (w : World) (hr : Kd.C k82 w A l.length l) (hall : l.all ringOk = true) (hlen : l.length ≤ 24)
    (h1 : w.heap[Bq]? = some (.cells #[.slice A l.length c, .int .i64 fl, .int .i64 tg] 24 (0, 0))) (h2 : w.heap[Bn]? = some (.cells #[.slice A9 nd.length cd] 30 (0, 0))) (hr9 : Kd.C (Kd.int .i64) w A9 nd.length nd) (hn : nd.length = l.length) (hpos : 0 < l.length) :
    Calls Try.prog 116 #[.int .i64 x, .pointer (some ⟨Bq, 0, none⟩), .pointer (some ⟨Bn, 0, none⟩)] w fun e w' => e = .returned (.bool (lit l nd x)) ∧ Below w.heap.size w w' := by
  have HB := Below.refl w.heap.size w
  have HNE := hid (show ¬ Bn = w.heap.size + 1 by have := cell_lt (blkCell h2 0); omega)
  obtain ⟨ad, rfl, _⟩ := Kd.at_int hr9 0 (by omega) (by omega)
  refine calls_of_wpF Try.func116 rfl ?_
  simp only [Try.ntmps116, List.size_toArray, List.length_cons, List.length_nil, Nat.reduceAdd, Nat.reduceSub, Array.replicate_succ, Array.replicate_zero, List.push_toArray, List.append_toArray, List.nil_append, List.cons_append]
  refine wpF_seq (wpF_of_wp ?_)
  go_wp2
  have e0 := alloc_old (o' := .cells #[.bool false] 4) (World.alloc_heap_new w (.cells #[.int .i64 x] 3))
  have e1 := World.alloc_heap_new (w.alloc (.cells #[.int .i64 x] 3)) (.cells #[.bool false] 4)
  have hbel := (HB.alloc (Nat.le_refl _) (.cells #[.int .i64 x] 3)).alloc (by simp) (.cells #[.bool false] 4)
  have e2 := alloc_old (o' := .cells #[.bool false] 4) (alloc_old (o' := .cells #[.int .i64 x] 3) h1)
  have e3 := alloc_old (o' := .cells #[.bool false] 4) (alloc_old (o' := .cells #[.int .i64 x] 3) h2)
  simp only [World.size_alloc] at e1
  have hsz : w.heap.size + 1 < ((w.alloc (.cells #[.int .i64 x] 3)).alloc (.cells #[.bool false] 4)).heap.size := by simp
  generalize ((w.alloc (Obj.cells #[.int .i64 x] 3)).alloc (Obj.cells #[.bool false] 4)) = W2 at *
  have b0 := blkCell e2 0
  have b1 := blkCell e2 1
  have b2 := blkCell e2 2
  simp at b0 b1 b2
  have hH : LitB w x false Bn (some ad) cd nd W2 := ⟨e0, e1, e3, hbel⟩
  have HH := hid (And.intro hH hsz)
  clear e0 e1 e2 e3 hbel HB hsz hH h1 h2
  refine wpF_seq (wpF_seq (wpF_of_wp ?_))
  go_wp2_with (first | (go_at_call 54; refine (rings_any _ _ _ _ _ _).mono ?_; rintro e w' ⟨rfl, rfl⟩))
  generalize hBb : W2.heap.size = Bb
  clear b0 b1 b2
  refine wpF_block ?_
  refine wpF_range (N := l.length) Try.func116 rfl enters99 (rings_iter Bb A c l fl tg (by omega)) (fun _ => rfl) (LitI w Bb A c l fl tg x Bn (some ad) cd nd) (LitR w l x Bn (some ad) cd nd) (fun _ _ => False) ?hI ?hIr ?hsz ?hRd ?h0 ?round ?done ?stop ?pan
  case hI =>
    rintro k W W' ⟨h1, h2, h3⟩ ht
    have hB : w.heap.size ≤ (W2.alloc (.cells #[.slice A l.length c, .int .i64 fl, .int .i64 tg] 24)).heap.size := by have := HH.out.2; simp; omega
    exact ⟨⟨ht.cells _ _ h1.box rfl, Kd.C_below hr (h2.turn hB ht).hb⟩, h2.turn hB ht, h3⟩
  case hIr =>
    rintro cc W W' ⟨h1, h2, h3⟩ ht
    have hB : w.heap.size ≤ (W2.alloc (.cells #[.slice A l.length c, .int .i64 fl, .int .i64 tg] 24)).heap.size := by have := HH.out.2; simp; omega
    exact ⟨h1, h2.turn hB ht, h3⟩
  case hsz => exact fun k W h => by have := cell_lt (blkCell h.1.box 0); simp; omega
  case hRd => exact fun k W h => h.1
  case pan => exact fun _ _ _ h => h.elim
  case h0 =>
    have hn := World.alloc_heap_new W2 (.cells #[.slice A l.length c, .int .i64 fl, .int .i64 tg] 24)
    rw [hBb] at hn
    have hb := HH.out.1.hb.alloc HH.out.1.hb.size (.cells #[.slice A l.length c, .int .i64 fl, .int .i64 tg] 24)
    exact ⟨⟨hn, Kd.C_below hr hb⟩, HH.out.1.grow ((Below.refl _ _).alloc (Nat.le_refl _) _), fun _ _ _ h => absurd h (by omega)⟩
  case round =>
    rintro lp k W hlt ⟨hR, hV, hO⟩
    have hg : l.getD k z82 = l[k] := by simp [List.getD, hlt]
    simp only [ringV, hg]
    gi_wp2
    refine ⟨(KeepsOthers.alloc _ _), fun w₂ ht2 => ?_⟩
    have hT : Turn (Bb + 1) W w₂ := (Turn.alloc (B := Bb + 1) (by have := cell_lt (blkCell hR.box 0); omega) _).trans (by simpa [hBb] using ht2)
    have hI2 := hV.turn (by have := HH.out.2; omega) hT
    have hbox := hT.cells _ _ hR.box rfl
    have hrg : w₂.heap[W.heap.size]? = some (.cells (ringC l[k]) 82 (0, 0)) := ht2.cells _ _ (World.alloc_heap_new _ _) rfl
    generalize W.heap.size = B at *
    have hlt' : k < nd.length := by omega
    obtain ⟨ad', had', t0⟩ := Kd.at_int (Kd.C_below hr9 hI2.hb) k (by omega) (by omega)
    cases had'
    rw [rd_int hlt'] at t0
    simp only [Int.toNat_natCast] at t0
    obtain ⟨d1, d2⟩ := thick_div (all_get hall hlt)
    have HO := hid hO
    have HQ := hid (And.intro hI2 (And.intro hbox (And.intro hrg (And.intro t0 (And.intro d1 d2)))))
    clear ht2 hT hI2 hbox hrg hR hV hg t0 hO d1 d2
    gi_wp2_with fail
    obtain ⟨hI2, hbox, hrg, t0, d1, d2⟩ := HQ.out
    refine wpIn_flow2 [[], [], [], [1, 2], [0, 3, 1, 2], [4, 0, 3, 1, 2], [], [], [6, 7], [8, 6, 7], [5, 4, 0, 3, 1, 2, 9, 8, 6, 7]] 10
      (fun V => V.cell? ⟨B, 0, none⟩ = some (.int .i64 (l[k].f0.f0)) ∧ V.cell? ⟨B, 1, none⟩ = some (.int .i64 (l[k].f0.f1)) ∧ V.cell? ⟨B, 2, none⟩ = some (.int .i64 (l[k].f1.f0)) ∧ V.cell? ⟨B, 3, none⟩ = some (.int .i64 (l[k].f1.f1)) ∧ V.cell? ⟨B, 4, none⟩ = some (.int .i64 (l[k].f2.f0)) ∧ V.cell? ⟨B, 5, none⟩ = some (.int .i64 (l[k].f2.f1)) ∧ V.cell? ⟨B, 6, none⟩ = some (.int .i64 (l[k].f3.f0)) ∧ V.cell? ⟨B, 7, none⟩ = some (.int .i64 (l[k].f3.f1)) ∧ V.cell? ⟨B, 8, none⟩ = some (.int .i64 (l[k].f4.f0)) ∧ V.cell? ⟨B, 9, none⟩ = some (.int .i64 (l[k].f4.f1)) ∧ V.cell? ⟨w.heap.size, 0, none⟩ = some (.int .i64 x) ∧ V.cell? ⟨Bn, 0, none⟩ = some (.slice (some ad) nd.length cd) ∧ V.cell? (ad.add k) = some (.int .i64 nd[k]) ∧ Below w₂.heap.size w₂ V)
      (fun u V => (V.cell? ⟨B, 0, none⟩ = some (.int .i64 (l[k].f0.f0)) ∧ V.cell? ⟨B, 1, none⟩ = some (.int .i64 (l[k].f0.f1)) ∧ V.cell? ⟨B, 2, none⟩ = some (.int .i64 (l[k].f1.f0)) ∧ V.cell? ⟨B, 3, none⟩ = some (.int .i64 (l[k].f1.f1)) ∧ V.cell? ⟨B, 4, none⟩ = some (.int .i64 (l[k].f2.f0)) ∧ V.cell? ⟨B, 5, none⟩ = some (.int .i64 (l[k].f2.f1)) ∧ V.cell? ⟨B, 6, none⟩ = some (.int .i64 (l[k].f3.f0)) ∧ V.cell? ⟨B, 7, none⟩ = some (.int .i64 (l[k].f3.f1)) ∧ V.cell? ⟨B, 8, none⟩ = some (.int .i64 (l[k].f4.f0)) ∧ V.cell? ⟨B, 9, none⟩ = some (.int .i64 (l[k].f4.f1)) ∧ V.cell? ⟨w.heap.size, 0, none⟩ = some (.int .i64 x) ∧ V.cell? ⟨Bn, 0, none⟩ = some (.slice (some ad) nd.length cd) ∧ V.cell? (ad.add k) = some (.int .i64 nd[k]) ∧ Below w₂.heap.size w₂ V) ∧ u = .bool (decide (thickLo l[k] x < nd[k])))
      { tmps := #[.int .i64 x, .pointer (some ⟨Bq, 0, none⟩), .pointer (some ⟨Bn, 0, none⟩), .pointer (some ⟨w.heap.size, 0, none⟩), .pointer (some ⟨(w.heap.size + 1), 0, none⟩), .int .i64 k, .pointer (some ⟨B, 0, none⟩), .agg #[.slice A l.length c, .int .i64 fl, .int .i64 tg], .func (.func 99) #[] #[.pointer (some ⟨Bb, 0, none⟩)], .int .i64 k, .agg #[.int .i64 (l[k].f0.f0), .int .i64 (l[k].f0.f1), .int .i64 (l[k].f1.f0), .int .i64 (l[k].f1.f1), .int .i64 (l[k].f2.f0), .int .i64 (l[k].f2.f1), .int .i64 (l[k].f3.f0), .int .i64 (l[k].f3.f1), .int .i64 (l[k].f4.f0), .int .i64 (l[k].f4.f1)], .agg #[.int .i64 (l[k].f0.f0), .int .i64 (l[k].f0.f1), .int .i64 (l[k].f1.f0), .int .i64 (l[k].f1.f1), .int .i64 (l[k].f2.f0), .int .i64 (l[k].f2.f1), .int .i64 (l[k].f3.f0), .int .i64 (l[k].f3.f1), .int .i64 (l[k].f4.f0), .int .i64 (l[k].f4.f1)], .int .i64 x, .int .i64 x, .agg #[.int .i64 x, .int .i64 x], .agg #[.int .i64 (thickLo l[k] x), .int .i64 (thickHi l[k] x)], .int .i64 (thickLo l[k] x), .slice (some ad) nd.length cd, .int .i64 k, .pointer (some (ad.add k)), .int .i64 (nd[k]), undef], defers := [] }
      mixed (by kernel_rfl) rfl (Ahead.of [0, 1, 2, 3, 4, 5, 6, 7, 8, 9, 10, 21] rfl rfl (by kernel_rfl) (by simp)) ?_ (fun _ _ h => h.1) ?_ ?_ rfl ?_
    · exact ⟨blkCell hrg 0, blkCell hrg 1, blkCell hrg 2, blkCell hrg 3, blkCell hrg 4, blkCell hrg 5, blkCell hrg 6, blkCell hrg 7, blkCell hrg 8, blkCell hrg 9, blkCell hI2.h1 0, blkCell hI2.h3 0, t0, (Below.refl _ _).drew⟩
    · refine EachOp.ops rfl ⟨?_, ?_, ?_, ?_, ?_, ?_, ?_, ?_, ?_, ?_, trivial⟩
      · exact .inr (LookOp.val 11 _ rfl rfl fun V ⟨y0, y1, y2, y3, y4, y5, y6, y7, y8, y9, y10, y11, x0, hB_⟩ => by go_simp)
      · exact .inr (LookOp.val 12 _ rfl rfl fun V ⟨y0, y1, y2, y3, y4, y5, y6, y7, y8, y9, y10, y11, x0, hB_⟩ => by go_simp)
      · exact .inr (LookOp.val 13 _ rfl rfl fun V ⟨y0, y1, y2, y3, y4, y5, y6, y7, y8, y9, y10, y11, x0, hB_⟩ => by go_simp)
      · exact .inr (LookOp.val 14 _ rfl rfl fun V ⟨y0, y1, y2, y3, y4, y5, y6, y7, y8, y9, y10, y11, x0, hB_⟩ => by go_simp)
      · left
        refine ⟨by simp, ?_⟩
        refine FlowOp.call 15 (.agg #[.int .i64 (thickLo l[k] x), .int .i64 (thickHi l[k] x)]) 55 #[.agg #[.int .i64 (l[k].f0.f0), .int .i64 (l[k].f0.f1), .int .i64 (l[k].f1.f0), .int .i64 (l[k].f1.f1), .int .i64 (l[k].f2.f0), .int .i64 (l[k].f2.f1), .int .i64 (l[k].f3.f0), .int .i64 (l[k].f3.f1), .int .i64 (l[k].f4.f0), .int .i64 (l[k].f4.f1)], .agg #[.int .i64 x, .int .i64 x]] rfl rfl (fun V ⟨y0, y1, y2, y3, y4, y5, y6, y7, y8, y9, y10, y11, x0, hB_⟩ => by go_simp) fun V ⟨y0, y1, y2, y3, y4, y5, y6, y7, y8, y9, y10, y11, x0, hB_⟩ => ?_
        refine (thickness_any l[k] x x _ d1 d2).mono ?_
        rintro e w' ⟨rfl, hb⟩
        exact ⟨rfl, cell_grow y0 hb, cell_grow y1 hb, cell_grow y2 hb, cell_grow y3 hb, cell_grow y4 hb, cell_grow y5 hb, cell_grow y6 hb, cell_grow y7 hb, cell_grow y8 hb, cell_grow y9 hb, cell_grow y10 hb, cell_grow y11 hb, cell_growp x0 hb, hB_.trans (hb.mono hB_.size)⟩
      · exact .inr (LookOp.val 16 _ rfl rfl fun V ⟨y0, y1, y2, y3, y4, y5, y6, y7, y8, y9, y10, y11, x0, hB_⟩ => by go_simp)
      · exact .inr (LookOp.val 17 _ rfl rfl fun V ⟨y0, y1, y2, y3, y4, y5, y6, y7, y8, y9, y10, y11, x0, hB_⟩ => by go_simp)
      · exact .inr (LookOp.val 18 _ rfl rfl fun V ⟨y0, y1, y2, y3, y4, y5, y6, y7, y8, y9, y10, y11, x0, hB_⟩ => by go_simp)
      · exact .inr (LookOp.val 19 _ rfl rfl fun V ⟨y0, y1, y2, y3, y4, y5, y6, y7, y8, y9, y10, y11, x0, hB_⟩ => by go_simp)
      · exact .inr (LookOp.val 20 _ rfl rfl fun V ⟨y0, y1, y2, y3, y4, y5, y6, y7, y8, y9, y10, y11, x0, hB_⟩ => by go_simp)
    · refine ⟨rfl, fun W2 ⟨y0, y1, y2, y3, y4, y5, y6, y7, y8, y9, y10, y11, x0, hB_⟩ => ?_⟩
      exact ⟨.bool (decide (thickLo l[k] x < nd[k])), W2, by go_simp, ⟨y0, y1, y2, y3, y4, y5, y6, y7, y8, y9, y10, y11, x0, hB_⟩, rfl⟩
    · rintro u V2 ⟨⟨y0, y1, y2, y3, y4, y5, y6, y7, y8, y9, y10, y11, x0, hB_⟩, rfl⟩
      have HB2 := hid hB_
      have HI3 := hid (hI2.grow hB_)
      have HX3 := hid (heap_grow hbox hB_)
      clear y0 y1 y2 y3 y4 y5 y6 y7 y8 y9 y10 y11 x0 hB_ hI2 hbox hrg t0 d1 d2
      by_cases hc : thickLo l[k] x < nd[k]
      · have hd : decide (thickLo l[k] x < nd[k]) = true := decide_eq_true hc
        have hbad : lit l nd x = false := by
          unfold lit
          rw [Bool.eq_false_iff]
          intro ha
          have := List.all_eq_true.1 ha (l[k], nd[k]) (by rw [List.mem_iff_getElem]; exact ⟨k, by rw [List.length_zip]; omega, by simp⟩)
          unfold litAt at this
          simp only at this
          rw [hd] at this; cases this
        have HBAD := hid hbad
        rw [hd]
        have c1 := blkCell HI3.out.h2 0
        have c2 := blkFrozen HI3.out.h2 0
        simp at c1
        clear hd hc hbad
        gi_wp2
        have h2 := heap_set_same (v := .bool false) HI3.out.h2
        exact ⟨(keeps_of_below HB2.out).trans (KeepsOthers.setCell _ _ _), rfl, ⟨heap_set_other (by omega) HI3.out.h1, h2, heap_set_other (by have := HNE.out; omega) HI3.out.h3, HI3.out.hb.setCell (p := ⟨w.heap.size + 1, 0, none⟩) (by simp) _⟩, HBAD.out⟩
      · have hd : decide (thickLo l[k] x < nd[k]) = false := decide_eq_false hc
        rw [hd]
        have hgood : litAt x (l[k], nd[k]) = true := by unfold litAt; simp only; rw [hd]; rfl
        have HG := hid hgood
        clear hd hc hgood
        gi_wp2
        exact ⟨keeps_of_below HB2.out, ⟨HX3.out, Kd.C_below hr HI3.out.hb⟩, HI3.out, fun j h h' hj => by
          by_cases e : j = k
          · subst e; exact HG.out
          · exact HO.out j h h' (by omega)⟩
  case done =>
    rintro D W ⟨hR, hV, hO⟩ hD hle
    show wpF Try.prog 116 _ _ _ _
    have hgood : lit l nd x = true := by
      unfold lit
      rw [List.all_eq_true]
      intro y hy
      obtain ⟨j, hj, rfl⟩ := List.getElem_of_mem hy
      rw [List.length_zip] at hj
      simpa using hO j (by omega) (by omega) (by omega)
    rw [hgood]
    have HV := hid hV
    have HD := hid hD
    have hsz := HH.out.2
    simp only [World.size_alloc] at hle
    have HS := hid (And.intro hsz hle)
    have c1 := blkCell hV.h2 0
    have c2 := blkFrozen hV.h2 0
    simp at c1
    clear hR hV hO hD hgood hsz hle
    refine wpF_of_wp ?_
    go_wp2
    have hD2 := heap_set_other (b := w.heap.size + 1) (v := .bool true) (by have := HS.out; omega) HD.out
    have k2 := blkCell ((World.putObj_heap_other (r := D) (o := .deferred none) (by have := HS.out; omega)).trans (heap_set_same (v := .bool true) HV.out.h2)) 0
    simp at k2
    refine ⟨by simp, .inl ⟨_, _, rfl, run_takeDeferred hD2, ?_⟩⟩
    exact ⟨.bool true, by simp [results, Try.results116, go_sem, k2], rfl, (HV.out.hb.setCell (p := ⟨w.heap.size + 1, 0, none⟩) (by simp) _).trans (below_putObj _ _ (by have := HS.out; omega))⟩
  case stop =>
    rintro D cc W ⟨rfl, hV, hbad⟩ hD hle
    rw [hbad]
    have HV := hid hV
    have HD := hid hD
    have hsz := HH.out.2
    simp only [World.size_alloc] at hle
    have HS := hid (And.intro hsz hle)
    clear hV hbad hD hsz hle
    refine wpF_of_wp ?_
    go_wp2
    have k2 := blkCell ((World.putObj_heap_other (r := D) (o := .deferred none) (by have := HS.out; omega)).trans HV.out.h2) 0
    simp at k2
    refine ⟨by simp, .inl ⟨_, _, rfl, run_takeDeferred HD.out, ?_⟩⟩
    exact ⟨.bool false, by simp [results, Try.results116, go_sem, k2], rfl, HV.out.hb.trans (below_putObj _ _ (by have := HS.out; omega))⟩
theorem enters116 : ∀ args w, (callFunc 116 args).run Try.prog w = .ok (.enter 116 args) w := enters_of Try.func116 (by kernel_rfl) rfl
def lightOf (l : List S82) (fl tg p f s o : Int) : Int :=
  if (needOf l fl tg p f s o).any (fun x => decide (x = 0)) = true then 0 else if 100000 < firstOf (lit l (needOf l fl tg p f s o)) 1 100000 then 0 else firstOf (lit l (needOf l fl tg p f s o)) 1 100000
set_option maxRecDepth 100000 in
set_option maxHeartbeats 4000000 in
theorem lightest_any (A : Option Addr) (c : Nat) (l : List S82) (fl tg p f s o : Int) (w : World) (hr : Kd.C k82 w A l.length l) (hk : checkOf l fl tg = 0) (hl : loadOk p f s o = true) :
    Calls Try.prog 97 #[.agg #[.slice A l.length c, .int .i64 fl, .int .i64 tg], .agg #[.int .i64 p, .int .i64 f, .int .i64 s, .int .i64 o]] w (ReturnsInt (lightOf l fl tg p f s o) w) := by
  have HB := Below.refl w.heap.size w
  have hmf := makeFunc_any
  have HK := hid hk
  have HL := hid hl
  clear hk hl
  go_enter Try.func97, Try.ntmps97
  go_wp2_with fail
  have e0 := alloc_old (o' := .cells #[.int .i64 p, .int .i64 f, .int .i64 s, .int .i64 o] 27) (World.alloc_heap_new w (.cells #[.slice A l.length c, .int .i64 fl, .int .i64 tg] 24))
  have hbel := (HB.alloc (Nat.le_refl _) (.cells #[.slice A l.length c, .int .i64 fl, .int .i64 tg] 24)).alloc (by simp) (.cells #[.int .i64 p, .int .i64 f, .int .i64 s, .int .i64 o] 27)
  have hs2 : w.heap.size < ((w.alloc (.cells #[.slice A l.length c, .int .i64 fl, .int .i64 tg] 24)).alloc (.cells #[.int .i64 p, .int .i64 f, .int .i64 s, .int .i64 o] 27)).heap.size := by simp; omega
  generalize ((w.alloc (Obj.cells #[.slice A l.length c, .int .i64 fl, .int .i64 tg] 24)).alloc (Obj.cells #[.int .i64 p, .int .i64 f, .int .i64 s, .int .i64 o] 27)) = W2 at *
  refine (needed_any A c l fl tg p f s o _ (Kd.C_below hr hbel) HK.out HL.out).mono ?_
  rintro e w1 ⟨v, rfl, hO, hb⟩
  obtain ⟨Ad, cd, rfl, hCn, hln⟩ := int_row hO
  have hlen : (needOf l fl tg p f s o).length = l.length := by unfold needOf; rw [List.length_map]
  have hlo : lightOf l fl tg p f s o = if (needOf l fl tg p f s o).any (fun x => decide (x = 0)) = true then 0 else if 100000 < firstOf (lit l (needOf l fl tg p f s o)) 1 100000 then 0 else firstOf (lit l (needOf l fl tg p f s o)) 1 100000 := rfl
  generalize needOf l fl tg p f s o = nd at *
  have HLO := hid hlo
  have hb1 := hbel.trans (hb.mono hbel.size)
  have e5 := World.alloc_heap_new w1 (.cells #[.slice Ad nd.length cd] 30)
  have hal := (Below.refl w1.heap.size w1).alloc (Nat.le_refl _) (.cells #[.slice Ad nd.length cd] 30)
  have hb5 := hb1.trans (hal.mono hb1.size)
  have e0 := heap_grow (heap_grow e0 hb) hal
  have hC5 := Kd.C_below hCn hal
  have HX := hid (And.intro e0 (And.intro e5 (And.intro hb5 (And.intro hC5 hlen))))
  have hl24 := (check_zero HK.out).1
  have c0 := blkCell e5 0
  simp at c0
  clear e0 e5 hb5 hC5 hlen hb1 hal hln hCn hO hb hbel hs2 hlo HB
  go_wp2_with fail
  refine (contains0 Ad cd nd _ HX.out.2.2.2.1 (by have := HX.out.2.2.2.2; omega)).mono ?_
  rintro e w2 ⟨rfl, hb⟩
  obtain ⟨e0, e5, hb5, hC5, hlen⟩ := HX.out
  have HY := hid (And.intro (heap_grow e0 hb) (And.intro (heap_grow e5 hb) (And.intro (hb5.trans (hb.mono hb5.size)) (And.intro (Kd.C_below hC5 hb) hlen))))
  clear e0 e5 hb5 hC5 hlen hb HX c0
  cases hany : nd.any (fun x => decide (x = 0)) with
  | true =>
    have hv : lightOf l fl tg p f s o = 0 := by rw [HLO.out, hany]; rfl
    have HV := hid hv
    clear hv hany
    go_wp2
    go_ret
    exact ⟨by rw [HV.out]; rfl, HY.out.2.2.1⟩
  | false =>
  have hv : lightOf l fl tg p f s o = if 100000 < firstOf (lit l nd) 1 100000 then 0 else firstOf (lit l nd) 1 100000 := by rw [HLO.out, hany]; rfl
  have HV := hid hv
  clear hv hany
  go_wp2_with fail
  obtain ⟨z1, z2, z3, _⟩ := check_zero HK.out
  have hA : Asks 116 #[.pointer (some ⟨w.heap.size, 0, none⟩), .pointer (some ⟨w1.heap.size, 0, none⟩)] (lit l nd) 1 (100000 + 1) w2 := by
    intro W x hW h0 h1
    obtain ⟨e0, e5, hb5, hC5, hlen⟩ := HY.out
    have := light1_any A c l fl tg x w.heap.size w1.heap.size Ad cd nd W (Kd.C_below hr (hb5.trans (hW.mono hb5.size))) z3 z1 (heap_grow e0 hW) (heap_grow e5 hW) (Kd.C_below hC5 hW) hlen z2
    simpa only [List.push_toArray, List.append_toArray, List.cons_append, List.nil_append] using this
  refine (first_any 116 _ enters116 (lit l nd) 1 100000 _ (by omega) (by omega) (by omega) hA).mono ?_
  rintro e w3 ⟨rfl, hb⟩
  have HB3 := hid (HY.out.2.2.1.trans (hb.mono HY.out.2.2.1.size))
  clear hb hA z1 z2 z3 HY
  generalize firstOf (lit l nd) 1 100000 = n at *
  by_cases hgt : 100000 < n
  · have hd : decide (100000 < n) = true := decide_eq_true hgt
    have hv : lightOf l fl tg p f s o = 0 := by rw [HV.out, if_pos hgt]
    have HV2 := hid hv
    clear hgt hv
    go_wp2
    go_ret
    exact ⟨by rw [HV2.out]; rfl, HB3.out⟩
  · have hd : decide (100000 < n) = false := decide_eq_false hgt
    have hv : lightOf l fl tg p f s o = n := by rw [HV.out, if_neg hgt]
    have HV2 := hid hv
    clear hgt hv
    go_wp2
    go_ret
    exact ⟨by rw [HV2.out]; rfl, HB3.out⟩
def lightestRes (l : List S82) (fl tg p f s o : Int) : Int × Int := if loadedOf l fl tg p f s o = 0 then (lightOf l fl tg p f s o, 0) else (0, loadedOf l fl tg p f s o)
set_option maxRecDepth 100000 in
set_option maxHeartbeats 2000000 in
theorem Lightest_any (A : Option Addr) (c : Nat) (l : List S82) (fl tg p f s o : Int) (w : World) (hr : Kd.C k82 w A l.length l) :
    Calls Try.prog 46 #[.agg #[.slice A l.length c, .int .i64 fl, .int .i64 tg], .agg #[.int .i64 p, .int .i64 f, .int .i64 s, .int .i64 o]] w fun e w' => e = .returned (.tuple #[.int .i64 (lightestRes l fl tg p f s o).1, .int .i64 (lightestRes l fl tg p f s o).2]) ∧ Below w.heap.size w w' := by
  have HB := Below.refl w.heap.size w
  have hmf := makeFunc_any
  refine calls_of_wpF Try.func46 rfl (wpF_of_wp ?_)
  simp only [Try.ntmps46, List.size_toArray, List.length_cons, List.length_nil, Nat.reduceAdd, Nat.reduceSub, Array.replicate_succ, Array.replicate_zero, List.push_toArray, List.append_toArray, List.nil_append, List.cons_append]
  go_wp2_with fail
  have hbel := ((HB.alloc (Nat.le_refl _) (.cells #[.slice A l.length c, .int .i64 fl, .int .i64 tg] 24)).alloc (by simp) (.cells #[.int .i64 p, .int .i64 f, .int .i64 s, .int .i64 o] 27)).alloc (by simp; omega) (.cells #[.int .i64 0] 36)
  refine (check_any A c l fl tg _ (Kd.C_below hr hbel)).mono ?_
  rintro e w1 ⟨he, hb⟩
  have hc : w1.cell? ⟨w.heap.size + 1 + 1, 0, none⟩ = some (.int .i64 0) := cell_grow (by go_simp) hb
  have b0 : w1.cell? ⟨w.heap.size, 0, none⟩ = some (.slice A l.length c) := cell_grow (by go_simp) hb
  have b1 : w1.cell? ⟨w.heap.size, 1, none⟩ = some (.int .i64 fl) := cell_grow (by go_simp) hb
  have b2 : w1.cell? ⟨w.heap.size, 2, none⟩ = some (.int .i64 tg) := cell_grow (by go_simp) hb
  have l0 : w1.cell? ⟨w.heap.size + 1, 0, none⟩ = some (.int .i64 p) := cell_grow (by go_simp) hb
  have l1 : w1.cell? ⟨w.heap.size + 1, 1, none⟩ = some (.int .i64 f) := cell_grow (by go_simp) hb
  have l2 : w1.cell? ⟨w.heap.size + 1, 2, none⟩ = some (.int .i64 s) := cell_grow (by go_simp) hb
  have l3 : w1.cell? ⟨w.heap.size + 1, 3, none⟩ = some (.int .i64 o) := cell_grow (by go_simp) hb
  have hf : w1.frozen? ⟨w.heap.size + 1 + 1, 0, none⟩ = false := frozen_grow (v := .int .i64 0) (by go_simp) (by go_simp) hb
  have HBB := hid (hbel.trans (hb.mono (by simp; omega)))
  clear hb hbel HB
  by_cases h0 : ¬ checkOf l fl tg = 0
  · rw [if_neg h0] at he
    subst he
    have hL : loadedOf l fl tg p f s o = checkOf l fl tg := by unfold loadedOf; rw [if_neg h0]
    refine leaves_fail catches96 enters96 hc hf ?_
    exact ⟨.tuple #[.int .i64 0, .int .i64 (checkOf l fl tg)], by simp [results, Try.results46, go_sem, caughtW_cell hc], by unfold lightestRes; rw [hL, if_neg h0], caughtW_below HBB.out (by omega)⟩
  have h0' := Decidable.not_not.1 h0
  rw [if_pos h0'] at he
  subst he
  have H0 := hid h0'
  have HF := hid hf
  clear h0 h0' hf
  go_wp2_with fail
  refine (checkLoad_any p f s o _).mono ?_
  rintro e w2 ⟨he, hb⟩
  have hf := frozen_grow hc HF.out hb
  have hc := cell_grow hc hb
  have b0 := cell_grow b0 hb
  have b1 := cell_grow b1 hb
  have b2 := cell_grow b2 hb
  have l0 := cell_grow l0 hb
  have l1 := cell_grow l1 hb
  have l2 := cell_grow l2 hb
  have l3 := cell_grow l3 hb
  have HBB := hid (HBB.out.trans (hb.mono HBB.out.size))
  clear hb HF
  by_cases hl : ¬ loadOk p f s o = true
  · rw [if_neg hl, if_neg (by decide)] at he
    subst he
    have hL : loadedOf l fl tg p f s o = 1 := by unfold loadedOf; rw [if_pos H0.out, if_neg hl]
    refine leaves_fail catches96 enters96 hc hf ?_
    exact ⟨.tuple #[.int .i64 0, .int .i64 1], by simp [results, Try.results46, go_sem, caughtW_cell hc], by unfold lightestRes; rw [hL]; rfl, caughtW_below HBB.out (by omega)⟩
  have hl' := Decidable.not_not.1 hl
  rw [if_pos hl', if_pos rfl] at he
  subst he
  have HL := hid hl'
  have HF := hid hf
  clear hl hl' hf
  go_wp2_with fail
  refine (lightest_any A c l fl tg p f s o _ (Kd.C_below hr HBB.out) H0.out HL.out).mono ?_
  rintro e w3 ⟨rfl, hb⟩
  have hc2 := cell_grow hc hb
  have hf2 := frozen_grow hc HF.out hb
  have HB2 := hid (HBB.out.trans (hb.mono HBB.out.size))
  clear hb HF hc b0 b1 b2 l0 l1 l2 l3
  go_wp2
  refine leaves_idle catches96 enters96 ?_
  exact ⟨.tuple #[.int .i64 (lightOf l fl tg p f s o), .int .i64 0], by simp [results, Try.results46, go_sem, hc2], by unfold lightestRes loadedOf; rw [if_pos H0.out, if_pos HL.out]; rfl, HB2.out.setCell (p := ⟨w.heap.size + 1 + 1, 0, none⟩) (by simp; omega) _⟩
end Go.Proofs.Ythoofldinnfpiaa
