-- H3 H4 A1 A2 (wip/pack9.py)
import Derived.Maps.OwnIn
import Derived.Test.YtbmkbokkmmdjdaaGreatY12
import Derived.Test.YtbmkbokkmmdjdaaGreatY7
section
namespace Go.Proofs.YtbmkbokkmmdjdaaGreat
open Go.RowKit Go.Proofs.YtbmkbokkmmdjdaaGreatW.PrintWords Go.Proofs.YtbmkbokkmmdjdaaGreatW.PrintLast Go.Proofs.YtbmkbokkmmdjdaaGreatW.PrintMore
open Q Go.Shelf
attribute [local go_sem] Oper.semAt_some wide_depth wide_fn
set_option linter.unusedVariables false
set_option linter.unusedSimpArgs false

def shareRes (ho fi : S23) (l : List S93) (n : Int) : S23 × Int :=
  if bookErr ho fi l = 0 then (if 0 ≤ n ∧ n < (keptOf l).ps.length then (shareS ((keptOf l).ps.getD n.toNat z88), 0) else (z23, 7)) else (z23, bookErr ho fi l)
def RetSE (p : S23 × Int) (w : World) (e : Ending) (w' : World) : Prop := e = .returned (.tuple #[.agg #[.int .i64 p.1.f0, .int .i64 p.1.f1], .int .i64 p.2]) ∧ Below w.heap.size w w'
structure ShB (w : World) (ho fi : S23) (A : Option Addr) (c : Nat) (l : List S93) (n : Int) (s : S23) (e : Int) (W : World) : Prop where
  h0 : W.heap[w.heap.size]? = some (.cells #[.int .i64 ho.f0, .int .i64 ho.f1, .int .i64 fi.f0, .int .i64 fi.f1, .slice A l.length c] 26 (0, 0))
  h1 : W.heap[w.heap.size + 1]? = some (.cells #[.int .i64 n] 3 (0, 0))
  h2 : W.heap[w.heap.size + 1 + 1]? = some (.cells #[.int .i64 s.f0, .int .i64 s.f1] 23 (0, 0))
  h3 : W.heap[w.heap.size + 1 + 1 + 1]? = some (.cells #[.int .i64 e] 30 (0, 0))
  be : Below w.heap.size w W
theorem ShB.grow {w W W' : World} {ho fi : S23} {A : Option Addr} {c : Nat} {l : List S93} {n e : Int} {s : S23} (h : ShB w ho fi A c l n s e W) (hb : Below W.heap.size W W') : ShB w ho fi A c l n s e W' :=
  ⟨heap_grow h.h0 hb, heap_grow h.h1 hb, heap_grow h.h2 hb, heap_grow h.h3 hb, h.be.trans (hb.mono h.be.size)⟩
theorem ShB.turn {w W W' : World} {ho fi : S23} {A : Option Addr} {c : Nat} {l : List S93} {n e : Int} {s : S23} (h : ShB w ho fi A c l n s e W) {B : Nat} (hB : w.heap.size ≤ B) (ht : Turn B W W') : ShB w ho fi A c l n s e W' :=
  ⟨ht.cells _ _ h.h0 rfl, ht.cells _ _ h.h1 rfl, ht.cells _ _ h.h2 rfl, ht.cells _ _ h.h3 rfl, h.be.trans (ht.below.mono hB)⟩
theorem ShB.lt {w W : World} {ho fi : S23} {A : Option Addr} {c : Nat} {l : List S93} {n e : Int} {s : S23} (h : ShB w ho fi A c l n s e W) : w.heap.size + 1 + 1 + 1 < W.heap.size := cell_lt (blkCell h.h3 0)
theorem ShB.put {w W : World} {ho fi : S23} {A : Option Addr} {c : Nat} {l : List S93} {n e : Int} {s : S23} (h : ShB w ho fi A c l n s e W) (s' : S23) (e' : Int) :
    ShB w ho fi A c l n s' e' (((W.setCell ⟨w.heap.size + 1 + 1, 0, none⟩ (.int .i64 s'.f0)).setCell ⟨w.heap.size + 1 + 1, 1, none⟩ (.int .i64 s'.f1)).setCell ⟨w.heap.size + 1 + 1 + 1, 0, none⟩ (.int .i64 e')) := by
  have o : ∀ {k : Nat} {ob : Obj}, k ≠ w.heap.size + 1 + 1 → k ≠ w.heap.size + 1 + 1 + 1 → W.heap[k]? = some ob → (((W.setCell ⟨w.heap.size + 1 + 1, 0, none⟩ (.int .i64 s'.f0)).setCell ⟨w.heap.size + 1 + 1, 1, none⟩ (.int .i64 s'.f1)).setCell ⟨w.heap.size + 1 + 1 + 1, 0, none⟩ (.int .i64 e')).heap[k]? = some ob :=
    fun h1 h2 hk => set_other (p := ⟨w.heap.size + 1 + 1 + 1, 0, none⟩) h2 (set_other (p := ⟨w.heap.size + 1 + 1, 1, none⟩) h1 (set_other (p := ⟨w.heap.size + 1 + 1, 0, none⟩) h1 hk))
  refine ⟨o (by omega) (by omega) h.h0, o (by omega) (by omega) h.h1, ?_, ?_, ?_⟩
  · exact set_other (p := ⟨w.heap.size + 1 + 1 + 1, 0, none⟩) (by simp) (set_snd (set_fst h.h2))
  · exact heap_set_same (set_other (p := ⟨w.heap.size + 1 + 1, 1, none⟩) (by simp) (set_other (p := ⟨w.heap.size + 1 + 1, 0, none⟩) (by simp) h.h3))
  · exact ((h.be.setCell (p := ⟨w.heap.size + 1 + 1, 0, none⟩) (by simp; omega) _).setCell (p := ⟨w.heap.size + 1 + 1, 1, none⟩) (by simp; omega) _).setCell (p := ⟨w.heap.size + 1 + 1 + 1, 0, none⟩) (by simp; omega) _
theorem ShB.new (w : World) (ho fi : S23) (A : Option Addr) (c : Nat) (l : List S93) (n : Int) : ShB w ho fi A c l n z23 0 ((((w.alloc (.cells #[.int .i64 ho.f0, .int .i64 ho.f1, .int .i64 fi.f0, .int .i64 fi.f1, .slice A l.length c] 26)).alloc (.cells #[.int .i64 n] 3)).alloc (.cells #[.int .i64 0, .int .i64 0] 23)).alloc (.cells #[.int .i64 0] 30)) := by
  have e0 := alloc_old (o' := .cells #[.int .i64 0] 30) (alloc_old (o' := .cells #[.int .i64 0, .int .i64 0] 23) (alloc_old (o' := .cells #[.int .i64 n] 3) (World.alloc_heap_new w (.cells #[.int .i64 ho.f0, .int .i64 ho.f1, .int .i64 fi.f0, .int .i64 fi.f1, .slice A l.length c] 26))))
  have e1 := alloc_old (o' := .cells #[.int .i64 0] 30) (alloc_old (o' := .cells #[.int .i64 0, .int .i64 0] 23) (World.alloc_heap_new (w.alloc (.cells #[.int .i64 ho.f0, .int .i64 ho.f1, .int .i64 fi.f0, .int .i64 fi.f1, .slice A l.length c] 26)) (.cells #[.int .i64 n] 3)))
  have e2 := alloc_old (o' := .cells #[.int .i64 0] 30) (World.alloc_heap_new ((w.alloc (.cells #[.int .i64 ho.f0, .int .i64 ho.f1, .int .i64 fi.f0, .int .i64 fi.f1, .slice A l.length c] 26)).alloc (.cells #[.int .i64 n] 3)) (.cells #[.int .i64 0, .int .i64 0] 23))
  have e3 := World.alloc_heap_new (((w.alloc (.cells #[.int .i64 ho.f0, .int .i64 ho.f1, .int .i64 fi.f0, .int .i64 fi.f1, .slice A l.length c] 26)).alloc (.cells #[.int .i64 n] 3)).alloc (.cells #[.int .i64 0, .int .i64 0] 23)) (.cells #[.int .i64 0] 30)
  simp only [World.size_alloc] at e1 e2 e3
  exact ⟨e0, e1, e2, e3, ((((Below.refl w.heap.size w).alloc (Nat.le_refl _) _).alloc (by simp) _).alloc (by simp; omega) _).alloc (by simp; omega) _⟩
set_option maxRecDepth 100000 in
set_option maxHeartbeats 4000000 in
theorem Share_no (ho fi : S23) (A : Option Addr) (c : Nat) (l : List S93) (n : Int) (w : World) (hr : Kd.C k93 w A l.length l) (hc : l.length ≤ c) (hv : bookErr ho fi l ≠ 0) :
    Calls Tryz.prog 24 #[.agg #[.int .i64 ho.f0, .int .i64 ho.f1, .int .i64 fi.f0, .int .i64 fi.f1, .slice A l.length c], .int .i64 n] w (RetSE (z23, bookErr ho fi l) w) := by
  have hu := Tryz.underlying23
  have hS := ShB.new w ho fi A c l n
  go_enter Tryz.func24, Tryz.ntmps24
  go_wp2_with fail
  generalize ((((w.alloc (.cells #[.int .i64 ho.f0, .int .i64 ho.f1, .int .i64 fi.f0, .int .i64 fi.f1, .slice A l.length c] 26)).alloc (.cells #[.int .i64 n] 3)).alloc (.cells #[.int .i64 0, .int .i64 0] 23)).alloc (.cells #[.int .i64 0] 30)) = W1 at *
  refine (Check_any ho fi A c l _ (Kd.C_below hr hS.be) hc).mono ?_
  rintro e W2 ⟨rfl, hb⟩
  have HS2 := hid (hS.grow hb)
  have d1 : (bookErr ho fi l != 0) = true := by simpa using hv
  have c0 := blkCell HS2.out.h2 0
  have g0 := blkFrozen HS2.out.h2 0
  have c1 := blkCell HS2.out.h2 1
  have g1 := blkFrozen HS2.out.h2 1
  have c2 := blkCell HS2.out.h3 0
  have g2 := blkFrozen HS2.out.h3 0
  simp at c0 c1 c2
  clear hb hS hv
  go_wp2
  have hz : ShB w ho fi A c l n z23 (bookErr ho fi l) (((W2.setCell ⟨w.heap.size + 1 + 1, 0, none⟩ (.int .i64 0)).setCell ⟨w.heap.size + 1 + 1, 1, none⟩ (.int .i64 0)).setCell ⟨w.heap.size + 1 + 1 + 1, 0, none⟩ (.int .i64 (bookErr ho fi l))) := HS2.out.put z23 (bookErr ho fi l)
  generalize (((W2.setCell ⟨w.heap.size + 1 + 1, 0, none⟩ (.int .i64 0)).setCell ⟨w.heap.size + 1 + 1, 1, none⟩ (.int .i64 0)).setCell ⟨w.heap.size + 1 + 1 + 1, 0, none⟩ (.int .i64 (bookErr ho fi l))) = Wz at *
  have q0 : Wz.cell? ⟨w.heap.size + 1 + 1, 0, none⟩ = some (.int .i64 0) := blkCell hz.h2 0
  have q1 : Wz.cell? ⟨w.heap.size + 1 + 1, 1, none⟩ = some (.int .i64 0) := blkCell hz.h2 1
  have q2 := blkCell hz.h3 0
  simp at q2
  refine bodyPost_ret (v := .tuple #[.agg #[.int .i64 0, .int .i64 0], .int .i64 (bookErr ho fi l)]) (by simp [results, Tryz.results24, go_sem, q0, q1, q2]) rfl ?_
  exact ⟨rfl, hz.be⟩
def ShI (w : World) (Bb : Nat) (ho fi : S23) (A : Option Addr) (c : Nat) (l : List S93) (n : Int) (g : Nat) (o : Obj) (k : Nat) (W : World) : Prop := ReadsB Bb ho fi A c l W ∧ ShB w ho fi A c l n z23 0 W ∧ W.heap[g]? = some o ∧ (o.isCells = true ∧ w.heap.size + 1 + 1 + 1 < g) ∧ ∀ j : Nat, j < k → (j : Int) ≠ n
def ShR (w : World) (ho fi : S23) (A : Option Addr) (c : Nat) (l : List S93) (n : Int) (cc : Code) (W : World) : Prop := cc = .ret ∧ (0 ≤ n ∧ n < (keptOf l).ps.length) ∧ ShB w ho fi A c l n (shareS ((keptOf l).ps.getD n.toNat z88)) 0 W
set_option maxRecDepth 100000 in
set_option maxHeartbeats 4000000 in
theorem Share_yes (ho fi : S23) (A : Option Addr) (c : Nat) (l : List S93) (n : Int) (w : World) (hr : Kd.C k93 w A l.length l) (hc : l.length ≤ c) (hv : bookErr ho fi l = 0) :
    Calls Tryz.prog 24 #[.agg #[.int .i64 ho.f0, .int .i64 ho.f1, .int .i64 fi.f0, .int .i64 fi.f1, .slice A l.length c], .int .i64 n] w (RetSE (shareRes ho fi l n) w) := by
  have hu := Tryz.underlying23
  have hmf := makeFunc_any
  have hS := ShB.new w ho fi A c l n
  have HV := hid hv
  refine calls_of_wpF Tryz.func24 rfl ?_
  simp only [Tryz.ntmps24, List.size_toArray, List.length_cons, List.length_nil, Nat.reduceAdd, Nat.reduceSub, Array.replicate_succ, Array.replicate_zero, List.push_toArray, List.append_toArray, List.nil_append, List.cons_append]
  refine wpF_seq (wpF_of_wp ?_)
  go_wp2
  generalize ((((w.alloc (.cells #[.int .i64 ho.f0, .int .i64 ho.f1, .int .i64 fi.f0, .int .i64 fi.f1, .slice A l.length c] 26)).alloc (.cells #[.int .i64 n] 3)).alloc (.cells #[.int .i64 0, .int .i64 0] 23)).alloc (.cells #[.int .i64 0] 30)) = W1 at *
  refine wpF_seq (wpF_of_wp ?_)
  have y0 := blkCell hS.h0 0
  have y1 := blkCell hS.h0 1
  have y2 := blkCell hS.h0 2
  have y3 := blkCell hS.h0 3
  have y4 := blkCell hS.h0 4
  simp at y0 y1 y2 y3 y4
  go_wp2_with fail
  refine (Check_any ho fi A c l _ (Kd.C_below hr hS.be) hc).mono ?_
  rintro e W2 ⟨rfl, hb⟩
  have HS2 := hid (hS.grow hb)
  have d1 : (bookErr ho fi l != 0) = false := by simpa using hv
  clear hb hS y0 y1 y2 y3 y4 hv
  go_wp2
  refine wpF_seq (wpF_seq (wpF_of_wp ?_))
  obtain ⟨x0, x1, x2, x3, xb⟩ := HS2.out
  have y0 := blkCell x0 0
  have y1 := blkCell x0 1
  have y2 := blkCell x0 2
  have y3 := blkCell x0 3
  have y4 := blkCell x0 4
  simp at y0 y1 y2 y3 y4
  clear x0 x1 x2 x3 xb
  go_wp2_with (first | (go_at_call 52; refine (numbered_any _ _ _ _ _ _).mono ?_; rintro e w' ⟨rfl, rfl⟩))
  have HBs := hid HS2.out.lt
  generalize hBb : W2.heap.size = Bb
  rw [hBb] at HBs
  clear y0 y1 y2 y3 y4 d1
  refine wpF_block ?_
  refine wpF_range2 (N := (keptOf l).ps.length) Tryz.func24 rfl enters91 (per_iter Bb ho fi A c l HV.out) (fun _ => rfl) (fun W => ReadsB Bb ho fi A c l W ∧ ShB w ho fi A c l n z23 0 W) (ShI w Bb ho fi A c l n) (ShR w ho fi A c l n) (fun _ _ => False) ?hI0 ?hI ?hIr ?hsz0 ?hsz ?hRd0 ?hRd ?h0 ?hstart ?round ?done ?stop ?pan
  case hI0 =>
    rintro W W' ⟨h1, h2⟩ ht
    have hB : w.heap.size ≤ (W2.alloc (.cells #[.int .i64 ho.f0, .int .i64 ho.f1, .int .i64 fi.f0, .int .i64 fi.f1, .slice A l.length c] 26)).heap.size := by have := HBs.out; simp; omega
    exact ⟨⟨ht.cells _ _ h1.box rfl, Kd.C_below hr (h2.turn hB ht).be⟩, h2.turn hB ht⟩
  case hI =>
    rintro g o k W W' ⟨h1, h2, h3, h4, h5⟩ ht
    have hB : w.heap.size ≤ (W2.alloc (.cells #[.int .i64 ho.f0, .int .i64 ho.f1, .int .i64 fi.f0, .int .i64 fi.f1, .slice A l.length c] 26)).heap.size := by have := HBs.out; simp; omega
    exact ⟨⟨ht.cells _ _ h1.box rfl, Kd.C_below hr (h2.turn hB ht).be⟩, h2.turn hB ht, ht.cells _ _ h3 h4.1, h4, h5⟩
  case hIr =>
    rintro cc W W' ⟨h1, h2, h3⟩ ht
    have hB : w.heap.size ≤ (W2.alloc (.cells #[.int .i64 ho.f0, .int .i64 ho.f1, .int .i64 fi.f0, .int .i64 fi.f1, .slice A l.length c] 26)).heap.size := by have := HBs.out; simp; omega
    exact ⟨h1, h2, h3.turn hB ht⟩
  case hsz0 => exact fun W h => by have := cell_lt (blkCell h.1.box 0); simp; omega
  case hsz => exact fun g o k W h => by have := cell_lt (blkCell h.1.box 0); simp; omega
  case hRd0 => exact fun W h => h.1
  case hRd => exact fun g o k W h => ⟨h.1, h.2.2.1⟩
  case pan => exact fun _ _ _ h => h.elim
  case h0 =>
    have hn := World.alloc_heap_new W2 (.cells #[.int .i64 ho.f0, .int .i64 ho.f1, .int .i64 fi.f0, .int .i64 fi.f1, .slice A l.length c] 26)
    rw [hBb] at hn
    have hb := HS2.out.be.alloc HS2.out.be.size (.cells #[.int .i64 ho.f0, .int .i64 ho.f1, .int .i64 fi.f0, .int .i64 fi.f1, .slice A l.length c] 26)
    exact ⟨⟨hn, Kd.C_below hr hb⟩, HS2.out.grow ((Below.refl _ _).alloc (Nat.le_refl _) _)⟩
  case hstart =>
    rintro g o W W' ⟨h1, h2⟩ ht hs hg ho hc
    exact ⟨⟨ht.cells _ _ h1.box rfl, Kd.C_below hr (h2.turn (by have := h2.lt; omega) ht).be⟩, h2.turn (by have := h2.lt; omega) ht, ho, ⟨hc, by have := h2.lt; omega⟩, fun j hj => absurd hj (by omega)⟩
  case round =>
    rintro lp g o k W hlt ⟨hR, hV, hO, hG, hJ⟩
    obtain ⟨pp, hpp⟩ : ∃ pp, (keptOf l).ps.getD k z88 = pp := ⟨_, rfl⟩
    simp only [hpp, pV]
    gi_wp2
    refine ⟨(KeepsOthers.alloc _ _), fun w₂ ht2 => ?_⟩
    have hT : Turn (Bb + 1) W w₂ := (Turn.alloc (B := Bb + 1) (by have := cell_lt (blkCell hR.box 0); omega) _).trans (by simpa [hBb] using ht2)
    have hI2 := hV.turn (by have := HBs.out; omega) hT
    have hbox := hT.cells _ _ hR.box rfl
    have hO2 := hT.cells _ _ hO hG.1
    have hpb : w₂.heap[W.heap.size]? = some (.cells #[.int .i64 pp.f0.f0, .int .i64 pp.f0.f1, .int .i64 pp.f1.f0, .int .i64 pp.f1.f1, .int .i64 pp.f2.f0, .int .i64 pp.f2.f1, .int .i64 pp.f3.f0, .int .i64 pp.f3.f1, .int .i64 pp.f4] 88 (0, 0)) := ht2.cells _ _ (World.alloc_heap_new _ _) rfl
    have hsz2 : W.heap.size + 1 ≤ w₂.heap.size := by have := cell_lt (blkCell hpb 0); omega
    generalize W.heap.size = B at *
    have q0 := blkCell hpb 0
    have q1 := blkCell hpb 1
    have q2 := blkCell hpb 2
    have q3 := blkCell hpb 3
    have q4 := blkCell hpb 4
    have q5 := blkCell hpb 5
    have q6 := blkCell hpb 6
    have q7 := blkCell hpb 7
    have q8 := blkCell hpb 8
    simp at q0 q1 q2 q3 q4 q5 q6 q7 q8
    have p0 := blkCell hI2.h1 0
    simp at p0
    have HI2 := hid hI2
    have HX := hid (And.intro hbox (And.intro hO2 (And.intro hG hJ)))
    have HP := hid hpp
    have HLT := hid hlt
    clear ht2 hT hI2 hbox hO2 hpb hR hV hO hG hJ hpp hlt
    by_cases hkn : (k : Int) = n
    · have d2 : ((k : Int) == n) = true := by simpa using hkn
      have HKN := hid hkn
      clear hkn
      gi_wp2_with fail
      clear d2
      refine (CallsIn.inRound lp (callsIn_wide.2 (share_any pp _))).mono ?_
      rintro e W5 ⟨rfl, hb⟩
      have HB5 := hid hb
      have HI5 := hid (HI2.out.grow hb)
      have c0 := blkCell HI5.out.h2 0
      have g0 := blkFrozen HI5.out.h2 0
      have c1 := blkCell HI5.out.h2 1
      have g1 := blkFrozen HI5.out.h2 1
      have c2 := blkCell HI5.out.h3 0
      have g2 := blkFrozen HI5.out.h3 0
      simp at c0 c1 c2
      clear hb q0 q1 q2 q3 q4 q5 q6 q7 q8 p0
      gi_wp2
      have hz := HI5.out.put (shareS pp) 0
      refine ⟨(keeps_of_below HB5.out).trans (((KeepsOthers.setCell _ _ _).trans (KeepsOthers.setCell _ _ _)).trans (KeepsOthers.setCell _ _ _)), rfl, ⟨by have := HKN.out; omega, by have := HKN.out; have := HLT.out; omega⟩, ?_⟩
      rw [show n.toNat = k by have := HKN.out; omega, HP.out]
      exact hz
    · have d2 : ((k : Int) == n) = false := by simpa using hkn
      have HKN := hid hkn
      clear hkn
      gi_wp2
      obtain ⟨hbox, hO2, hG, hJ⟩ := HX.out
      exact ⟨KeepsOthers.refl _, ⟨hbox, Kd.C_below hr HI2.out.be⟩, HI2.out, hO2, hG, fun j hj => by
        by_cases e : j = k
        · subst e; exact HKN.out
        · exact hJ j (by omega)⟩
  case done =>
    rintro g o D W ⟨hR, hV, hO, hG, hJ⟩ hD hle
    show wpF Tryz.prog 24 _ _ _ _
    rw [show shareRes ho fi l n = (z23, 7) by
      unfold shareRes
      rw [if_pos HV.out, if_neg]
      rintro ⟨h1, h2⟩
      exact hJ n.toNat (by omega) (by omega)]
    have HVV := hid hV
    have HD := hid hD
    have hsz := HBs.out
    simp only [World.size_alloc] at hle
    have HS := hid (And.intro hsz hle)
    have c0 := blkCell hV.h2 0
    have g0 := blkFrozen hV.h2 0
    have c1 := blkCell hV.h2 1
    have g1 := blkFrozen hV.h2 1
    have c2 := blkCell hV.h3 0
    have g2 := blkFrozen hV.h3 0
    simp at c0 c1 c2
    clear hR hV hO hG hJ hD hsz hle
    refine wpF_of_wp ?_
    go_wp2
    have o : ∀ {k : Nat} {ob : Obj}, k ≠ w.heap.size + 1 + 1 → k ≠ w.heap.size + 1 + 1 + 1 → W.heap[k]? = some ob → (((W.setCell ⟨w.heap.size + 1 + 1, 0, none⟩ (.int .i64 0)).setCell ⟨w.heap.size + 1 + 1, 1, none⟩ (.int .i64 0)).setCell ⟨w.heap.size + 1 + 1 + 1, 0, none⟩ (.int .i64 7)).heap[k]? = some ob :=
      fun h1 h2 hk => set_other (p := ⟨w.heap.size + 1 + 1 + 1, 0, none⟩) h2 (set_other (p := ⟨w.heap.size + 1 + 1, 1, none⟩) h1 (set_other (p := ⟨w.heap.size + 1 + 1, 0, none⟩) h1 hk))
    have hD2 := o (by have := HS.out; omega) (by have := HS.out; omega) HD.out
    have hz : ShB w ho fi A c l n z23 7 (((W.setCell ⟨w.heap.size + 1 + 1, 0, none⟩ (.int .i64 0)).setCell ⟨w.heap.size + 1 + 1, 1, none⟩ (.int .i64 0)).setCell ⟨w.heap.size + 1 + 1 + 1, 0, none⟩ (.int .i64 7)) := HVV.out.put z23 7
    clear o
    generalize (((W.setCell ⟨w.heap.size + 1 + 1, 0, none⟩ (.int .i64 0)).setCell ⟨w.heap.size + 1 + 1, 1, none⟩ (.int .i64 0)).setCell ⟨w.heap.size + 1 + 1 + 1, 0, none⟩ (.int .i64 7)) = Wz at *
    refine ⟨by simp, .inl ⟨_, _, rfl, run_takeDeferred hD2, ?_⟩⟩
    have k0 : (Wz.putObj D (.deferred none)).cell? ⟨w.heap.size + 1 + 1, 0, none⟩ = some (.int .i64 0) := blkCell ((World.putObj_heap_other (r := D) (o := .deferred none) (by have := HS.out; omega)).trans hz.h2) 0
    have k1 : (Wz.putObj D (.deferred none)).cell? ⟨w.heap.size + 1 + 1, 1, none⟩ = some (.int .i64 0) := blkCell ((World.putObj_heap_other (r := D) (o := .deferred none) (by have := HS.out; omega)).trans hz.h2) 1
    have k2 : (Wz.putObj D (.deferred none)).cell? ⟨w.heap.size + 1 + 1 + 1, 0, none⟩ = some (.int .i64 7) := blkCell ((World.putObj_heap_other (r := D) (o := .deferred none) (by have := HS.out; omega)).trans hz.h3) 0
    exact ⟨.tuple #[.agg #[.int .i64 0, .int .i64 0], .int .i64 7], by simp [results, Tryz.results24, go_sem, k0, k1, k2], rfl, hz.be.trans (below_putObj _ _ (by have := HS.out; omega))⟩
  case stop =>
    rintro D cc W ⟨rfl, hn, hV⟩ hD hle
    rw [show shareRes ho fi l n = (shareS ((keptOf l).ps.getD n.toNat z88), 0) by
      unfold shareRes
      rw [if_pos HV.out, if_pos hn]]
    generalize shareS ((keptOf l).ps.getD n.toNat z88) = sv at *
    have HVV := hid hV
    have HD := hid hD
    have hsz := HBs.out
    simp only [World.size_alloc] at hle
    have HS := hid (And.intro hsz hle)
    clear hV hD hsz hle
    refine wpF_of_wp ?_
    go_wp2
    have k0 := blkCell ((World.putObj_heap_other (r := D) (o := .deferred none) (by have := HS.out; omega)).trans HVV.out.h2) 0
    have k1 := blkCell ((World.putObj_heap_other (r := D) (o := .deferred none) (by have := HS.out; omega)).trans HVV.out.h2) 1
    have k2 := blkCell ((World.putObj_heap_other (r := D) (o := .deferred none) (by have := HS.out; omega)).trans HVV.out.h3) 0
    simp at k0 k1 k2
    refine ⟨by simp, .inl ⟨_, _, rfl, run_takeDeferred HD.out, ?_⟩⟩
    exact ⟨.tuple #[.agg #[.int .i64 sv.f0, .int .i64 sv.f1], .int .i64 0], by simp [results, Tryz.results24, go_sem, k0, k1, k2], rfl, HVV.out.be.trans (below_putObj _ _ (by have := HS.out; omega))⟩
theorem Share_any (ho fi : S23) (A : Option Addr) (c : Nat) (l : List S93) (n : Int) (w : World) (hr : Kd.C k93 w A l.length l) (hc : l.length ≤ c) :
    Calls Tryz.prog 24 #[.agg #[.int .i64 ho.f0, .int .i64 ho.f1, .int .i64 fi.f0, .int .i64 fi.f1, .slice A l.length c], .int .i64 n] w (RetSE (shareRes ho fi l n) w) := by
  by_cases hv : bookErr ho fi l = 0
  · exact Share_yes ho fi A c l n w hr hc hv
  · have := Share_no ho fi A c l n w hr hc hv
    rwa [show shareRes ho fi l n = (z23, bookErr ho fi l) by unfold shareRes; rw [if_neg hv]]
end Go.Proofs.YtbmkbokkmmdjdaaGreat
end
section
namespace Go.Proofs.YtbmkbokkmmdjdaaGreat
open Go.RowKit Go.Proofs.YtbmkbokkmmdjdaaGreatW.PrintWords Go.Proofs.YtbmkbokkmmdjdaaGreatW.PrintLast Go.Proofs.YtbmkbokkmmdjdaaGreatW.PrintMore
open Q Go.Shelf
attribute [local go_sem] Oper.semAt_some wide_depth wide_fn
set_option linter.unusedVariables false
set_option linter.unusedSimpArgs false

end Go.Proofs.YtbmkbokkmmdjdaaGreat
end
section
namespace Go.Proofs.YtbmkbokkmmdjdaaGreat
open Go.RowKit Go.Proofs.YtbmkbokkmmdjdaaGreatW.PrintWords Go.Proofs.YtbmkbokkmmdjdaaGreatW.PrintLast Go.Proofs.YtbmkbokkmmdjdaaGreatW.PrintMore
open Q Go.Shelf
attribute [local go_sem] Oper.semAt_some wide_depth wide_fn
set_option linter.unusedVariables false
set_option linter.unusedSimpArgs false

def gramsS (s : S23) : S23 := timesS s ⟨1000, 1000⟩
def minusS (s : S23) : S23 := ⟨wrap64 (-s.f1), wrap64 (-s.f0)⟩
def meetS (a b : S23) : S23 := ⟨mx a.f0 b.f0, mn a.f1 b.f1⟩
set_option maxRecDepth 100000 in
theorem grams_any (s : S23) (w : World) : Calls Tryz.prog 57 #[.agg #[.int .i64 s.f0, .int .i64 s.f1]] w (RetSpan (gramsS s) w) := by
  have hu := Tryz.underlying23
  have HB := Below.refl w.heap.size w
  go_enter Tryz.func57, Tryz.ntmps57
  go_wp2_with fail
  have e1 := World.alloc_heap_new (w.alloc (.cells #[.int .i64 s.f0, .int .i64 s.f1] 23)) (.cells #[.int .i64 0, .int .i64 0] 23)
  have hbel := (HB.alloc (Nat.le_refl _) (.cells #[.int .i64 s.f0, .int .i64 s.f1] 23)).alloc (by simp) (.cells #[.int .i64 0, .int .i64 0] 23)
  simp only [World.size_alloc] at e1
  generalize ((w.alloc (.cells #[.int .i64 s.f0, .int .i64 s.f1] 23)).alloc (.cells #[.int .i64 0, .int .i64 0] 23)) = W1 at *
  refine (times_any s ⟨1000, 1000⟩ W1).mono ?_
  rintro e W2 ⟨rfl, hb⟩
  have e1 := heap_grow e1 hb
  have HB2 := hid (hbel.trans (hb.mono hbel.size))
  have y0 := blkCell e1 0
  have y1 := blkCell e1 1
  have z0 := blkFrozen e1 0
  have z1 := blkFrozen e1 1
  simp at y0 y1
  have HE := hid e1
  have hg : timesS s ⟨1000, 1000⟩ = gramsS s := rfl
  rw [hg]
  generalize gramsS s = g at *
  clear hb hbel HB e1 hg
  go_wp2
  have hz := st2_same HE.out (.int .i64 g.f0) (.int .i64 g.f1)
  have hb := st2_below HB2.out (show w.heap.size ≤ w.heap.size + 1 by omega) (.int .i64 g.f0) (.int .i64 g.f1)
  generalize ((W2.setCell ⟨w.heap.size + 1, 0, none⟩ (.int .i64 g.f0)).setCell ⟨w.heap.size + 1, 1, none⟩ (.int .i64 g.f1)) = w5 at *
  have q0 := blkCell hz 0
  have q1 := blkCell hz 1
  simp at q0 q1
  refine bodyPost_ret (v := .agg #[.int .i64 g.f0, .int .i64 g.f1]) (by simp [results, Tryz.results57, go_sem, q0, q1]) rfl ⟨rfl, hb⟩
theorem minus_any (s : S23) (w : World) : Calls Tryz.prog 58 #[.agg #[.int .i64 s.f0, .int .i64 s.f1]] w (RetSpan (minusS s) w) := by
  have hu := Tryz.underlying23
  have HB := Below.refl w.heap.size w
  go_enter Tryz.func58, Tryz.ntmps58
  go_wp2
  refine bodyPost_ret (v := .agg #[.int .i64 (wrap64 (-s.f1)), .int .i64 (wrap64 (-s.f0))]) (by simp [results, Tryz.results58, go_sem, wrap_i]) rfl ⟨rfl, ?_⟩
  exact ((HB.alloc (Nat.le_refl _) _).alloc (by simp) _)
attribute [local go_sem] max2_int min2_int max_two min_two
set_option maxRecDepth 100000 in
theorem meet_any (a b : S23) (w : World) : Calls Tryz.prog 64 #[.agg #[.int .i64 a.f0, .int .i64 a.f1], .agg #[.int .i64 b.f0, .int .i64 b.f1]] w (RetSpan (meetS a b) w) := by
  have hu := Tryz.underlying23
  have HB := Below.refl w.heap.size w
  go_enter Tryz.func64, Tryz.ntmps64
  go_wp2
  all_goals
    refine bodyPost_ret (v := .agg #[.int .i64 (mx a.f0 b.f0), .int .i64 (mn a.f1 b.f1)]) (by simp [results, Tryz.results64, go_sem] <;> (unfold mx mn; refine ⟨?_, ?_⟩ <;> (split <;> omega))) rfl ⟨rfl, ?_⟩
    exact (((HB.alloc (Nat.le_refl _) _).alloc (by simp) _).alloc (by simp; omega) _)
def firstS (fi : S23) (k : Int) : S23 := if k = 0 then gramsS fi else ⟨0, 0⟩
def alwaysS (ho : S23) (k : Int) : S23 := if k = 0 then gramsS ho else ⟨0, 1152921504606846976⟩
def LW (w : World) (ho fi : S23) (A : Option Addr) (c : Nat) (l : List S93) (k h : Int) : World := ((((w.alloc (.cells #[.int .i64 ho.f0, .int .i64 ho.f1, .int .i64 fi.f0, .int .i64 fi.f1, .slice A l.length c] 26)).alloc (.cells #[.int .u8 k, .int .i64 h] 60)).alloc (.cells #[.int .i64 0, .int .i64 0] 23)).alloc (.cells #[.int .i64 0, .int .i64 0] 23))
set_option maxRecDepth 100000 in
set_option maxHeartbeats 2000000 in
set_option pp.deepTerms true in
set_option pp.maxSteps 1000000 in
theorem limits_any (ho fi : S23) (A : Option Addr) (c : Nat) (l : List S93) (k h : Int) (w : World) : Calls Tryz.prog 62 #[.agg #[.int .i64 ho.f0, .int .i64 ho.f1, .int .i64 fi.f0, .int .i64 fi.f1, .slice A l.length c], .agg #[.int .u8 k, .int .i64 h]] w fun e w' => e = .returned (.tuple #[.agg #[.int .i64 (firstS fi k).f0, .int .i64 (firstS fi k).f1], .agg #[.int .i64 (alwaysS ho k).f0, .int .i64 (alwaysS ho k).f1]]) ∧ Below w.heap.size w w' := by
  have hu := Tryz.underlying23
  have hu1 := Tryz.underlying60
  have hu2 := Tryz.underlying26
  have hbel : Below w.heap.size w (LW w ho fi A c l k h) := ((((Below.refl w.heap.size w).alloc (Nat.le_refl _) _).alloc (by simp) _).alloc (by simp; omega) _).alloc (by simp; omega) _
  have e0 : (LW w ho fi A c l k h).heap[w.heap.size]? = some (.cells #[.int .i64 ho.f0, .int .i64 ho.f1, .int .i64 fi.f0, .int .i64 fi.f1, .slice A l.length c] 26 (0, 0)) := alloc_old (alloc_old (alloc_old (World.alloc_heap_new _ _)))
  have e2 : (LW w ho fi A c l k h).heap[w.heap.size + 1 + 1]? = some (.cells #[.int .i64 0, .int .i64 0] 23 (0, 0)) := by
    have := alloc_old (o' := .cells #[.int .i64 0, .int .i64 0] 23) (World.alloc_heap_new ((w.alloc (.cells #[.int .i64 ho.f0, .int .i64 ho.f1, .int .i64 fi.f0, .int .i64 fi.f1, .slice A l.length c] 26)).alloc (.cells #[.int .u8 k, .int .i64 h] 60)) (.cells #[.int .i64 0, .int .i64 0] 23))
    simp only [World.size_alloc] at this
    exact this
  have e3 : (LW w ho fi A c l k h).heap[w.heap.size + 1 + 1 + 1]? = some (.cells #[.int .i64 0, .int .i64 0] 23 (0, 0)) := by
    have := World.alloc_heap_new (((w.alloc (.cells #[.int .i64 ho.f0, .int .i64 ho.f1, .int .i64 fi.f0, .int .i64 fi.f1, .slice A l.length c] 26)).alloc (.cells #[.int .u8 k, .int .i64 h] 60)).alloc (.cells #[.int .i64 0, .int .i64 0] 23)) (.cells #[.int .i64 0, .int .i64 0] 23)
    simp only [World.size_alloc] at this
    exact this
  by_cases hk : k = 0
  · have d1 : (k == 0) = true := by simpa using hk
    rw [show firstS fi k = gramsS fi by unfold firstS; rw [if_pos hk], show alwaysS ho k = gramsS ho by unfold alwaysS; rw [if_pos hk]]
    clear hk
    go_enter Tryz.func62, Tryz.ntmps62
    go_upto_region 2 with fail
    unfold LW at e0 e2 e3 hbel
    generalize ((((w.alloc (.cells #[.int .i64 ho.f0, .int .i64 ho.f1, .int .i64 fi.f0, .int .i64 fi.f1, .slice A l.length c] 26)).alloc (.cells #[.int .u8 k, .int .i64 h] 60)).alloc (.cells #[.int .i64 0, .int .i64 0] 23)).alloc (.cells #[.int .i64 0, .int .i64 0] 23)) = W1 at *
    have y0 := blkCell e0 0
    have y1 := blkCell e0 1
    have y2 := blkCell e0 2
    have y3 := blkCell e0 3
    have y4 := blkCell e0 4
    simp at y0 y1 y2 y3 y4
    have HX := hid (And.intro e2 (And.intro e3 hbel))
    clear e0 e2 e3 hbel
    refine wp_flow [[], [0], [1, 0], [], [3], [4, 3, 2, 1, 0], [2, 1, 0, 5, 4, 3], [5, 4, 3, 2, 1, 0, 6]] 6
      (fun V => V.cell? ⟨w.heap.size, 0, none⟩ = some (.int .i64 ho.f0) ∧ V.cell? ⟨w.heap.size, 1, none⟩ = some (.int .i64 ho.f1) ∧ V.cell? ⟨w.heap.size, 2, none⟩ = some (.int .i64 fi.f0) ∧ V.cell? ⟨w.heap.size, 3, none⟩ = some (.int .i64 fi.f1) ∧ V.cell? ⟨w.heap.size, 4, none⟩ = some (.slice A l.length c) ∧ Below W1.heap.size W1 V)
      { tmps := #[.agg #[.int .i64 ho.f0, .int .i64 ho.f1, .int .i64 fi.f0, .int .i64 fi.f1, .slice A l.length c], .agg #[.int .u8 k, .int .i64 h], .pointer (some ⟨w.heap.size, 0, none⟩), .pointer (some ⟨(w.heap.size + 1), 0, none⟩), .pointer (some ⟨(w.heap.size + 1 + 1), 0, none⟩), .pointer (some ⟨(w.heap.size + 1 + 1 + 1), 0, none⟩), .pointer (some ⟨(w.heap.size + 1), 0, none⟩), .int .u8 k, .bool true, .pointer (some ⟨w.heap.size, 2, none⟩), .agg #[.int .i64 fi.f0, .int .i64 fi.f1], .agg #[.int .i64 ((gramsS fi).f0), .int .i64 ((gramsS fi).f1)], .pointer (some ⟨w.heap.size, 0, none⟩), .agg #[.int .i64 ho.f0, .int .i64 ho.f1], .agg #[.int .i64 ((gramsS ho).f0), .int .i64 ((gramsS ho).f1)], undef, undef], defers := [] }
      mixed (by kernel_rfl) rfl (Ahead.of3 9 15 rfl rfl (by kernel_rfl) rfl rfl) ?_ (AllFlow.ops rfl ?_) rfl ?_
    · exact ⟨y0, y1, y2, y3, y4, (Below.refl _ _).drew⟩
    · refine ⟨?_, ?_, ?_, ?_, ?_, ?_, trivial⟩
      · exact .val 9 _ rfl rfl fun V ⟨y0, y1, y2, y3, y4, hB_⟩ => by go_simp
      · exact .val 10 _ rfl rfl fun V ⟨y0, y1, y2, y3, y4, hB_⟩ => by go_simp
      · refine .call 11 (.agg #[.int .i64 ((gramsS fi).f0), .int .i64 ((gramsS fi).f1)]) 57 #[.agg #[.int .i64 fi.f0, .int .i64 fi.f1]] rfl rfl (fun V ⟨y0, y1, y2, y3, y4, hB_⟩ => by go_simp) fun V ⟨y0, y1, y2, y3, y4, hB_⟩ => ?_
        refine (grams_any fi _).mono ?_
        rintro e w' ⟨rfl, hb⟩
        exact ⟨rfl, cell_grow y0 hb, cell_grow y1 hb, cell_grow y2 hb, cell_grow y3 hb, cell_grow y4 hb, hB_.trans (hb.mono hB_.size)⟩
      · exact .val 12 _ rfl rfl fun V ⟨y0, y1, y2, y3, y4, hB_⟩ => by go_simp
      · exact .val 13 _ rfl rfl fun V ⟨y0, y1, y2, y3, y4, hB_⟩ => by go_simp
      · refine .call 14 (.agg #[.int .i64 ((gramsS ho).f0), .int .i64 ((gramsS ho).f1)]) 57 #[.agg #[.int .i64 ho.f0, .int .i64 ho.f1]] rfl rfl (fun V ⟨y0, y1, y2, y3, y4, hB_⟩ => by go_simp) fun V ⟨y0, y1, y2, y3, y4, hB_⟩ => ?_
        refine (grams_any ho _).mono ?_
        rintro e w' ⟨rfl, hb⟩
        exact ⟨rfl, cell_grow y0 hb, cell_grow y1 hb, cell_grow y2 hb, cell_grow y3 hb, cell_grow y4 hb, hB_.trans (hb.mono hB_.size)⟩
    rintro V ⟨y0, y1, y2, y3, y4, hB_⟩
    obtain ⟨e2, e3, hbel⟩ := HX.out
    have e2 := heap_grow e2 hB_
    have e3 := heap_grow e3 hB_
    have hbel := hbel.trans (hB_.mono hbel.size)
    have u0 := blkFrozen e2 0
    have u1 := blkFrozen e2 1
    have v0 := blkFrozen e3 0
    have v1 := blkFrozen e3 1
    have r0 := blkCell e2 0
    have r1 := blkCell e2 1
    have t0 := blkCell e3 0
    have t1 := blkCell e3 1
    simp at r0 r1 t0 t1
    generalize hgf : gramsS fi = gf at *
    generalize hgh : gramsS ho = gh at *
    have HGF := hid hgf
    have HGH := hid hgh
    clear hgf hgh
    have HY := hid (And.intro e2 (And.intro e3 hbel))
    clear e2 e3 hbel HX hB_
    go_wp2
    obtain ⟨e2, e3, hbel⟩ := HY.out
    have f2 := st2_same e2 (.int .i64 gf.f0) (.int .i64 gf.f1)
    have f3 := st2_other (b := w.heap.size + 1 + 1) (show w.heap.size + 1 + 1 + 1 ≠ w.heap.size + 1 + 1 by omega) e3 (.int .i64 gf.f0) (.int .i64 gf.f1)
    have hb1 := st2_below hbel (show w.heap.size ≤ w.heap.size + 1 + 1 by omega) (.int .i64 gf.f0) (.int .i64 gf.f1)
    generalize ((V.setCell ⟨w.heap.size + 1 + 1, 0, none⟩ (.int .i64 gf.f0)).setCell ⟨w.heap.size + 1 + 1, 1, none⟩ (.int .i64 gf.f1)) = V1 at *
    have g2 := st2_other (b := w.heap.size + 1 + 1 + 1) (show w.heap.size + 1 + 1 ≠ w.heap.size + 1 + 1 + 1 by omega) f2 (.int .i64 gh.f0) (.int .i64 gh.f1)
    have g3 := st2_same f3 (.int .i64 gh.f0) (.int .i64 gh.f1)
    have hb2 := st2_below hb1 (show w.heap.size ≤ w.heap.size + 1 + 1 + 1 by omega) (.int .i64 gh.f0) (.int .i64 gh.f1)
    generalize ((V1.setCell ⟨w.heap.size + 1 + 1 + 1, 0, none⟩ (.int .i64 gh.f0)).setCell ⟨w.heap.size + 1 + 1 + 1, 1, none⟩ (.int .i64 gh.f1)) = V2 at *
    have q0 := blkCell g2 0
    have q1 := blkCell g2 1
    have q2 := blkCell g3 0
    have q3 := blkCell g3 1
    simp at q0 q1 q2 q3
    refine bodyPost_ret (v := .tuple #[.agg #[.int .i64 gf.f0, .int .i64 gf.f1], .agg #[.int .i64 gh.f0, .int .i64 gh.f1]]) (by simp [results, Tryz.results62, go_sem, q0, q1, q2, q3]) rfl ⟨by rw [HGF.out, HGH.out], hb2⟩
  · have d1 : (k == 0) = false := by simpa using hk
    rw [show firstS fi k = ⟨0, 0⟩ by unfold firstS; rw [if_neg hk], show alwaysS ho k = ⟨0, 1152921504606846976⟩ by unfold alwaysS; rw [if_neg hk]]
    clear hk
    go_enter Tryz.func62, Tryz.ntmps62
    go_wp2
    refine bodyPost_ret (v := .tuple #[.agg #[.int .i64 0, .int .i64 0], .agg #[.int .i64 0, .int .i64 1152921504606846976]]) (by simp [results, Tryz.results62, go_sem]) rfl ⟨rfl, ?_⟩
    exact ((((Below.refl w.heap.size w).alloc (Nat.le_refl _) _).alloc (by simp) _).alloc (by simp; omega) _).alloc (by simp; omega) _
end Go.Proofs.YtbmkbokkmmdjdaaGreat
end
section
namespace Go.Proofs.YtbmkbokkmmdjdaaGreat
open Go.RowKit Go.Proofs.YtbmkbokkmmdjdaaGreatW.PrintWords Go.Proofs.YtbmkbokkmmdjdaaGreatW.PrintLast Go.Proofs.YtbmkbokkmmdjdaaGreatW.PrintMore
open Q Go.Shelf
attribute [local go_sem] Oper.semAt_some wide_depth wide_fn
set_option linter.unusedVariables false
set_option linter.unusedSimpArgs false

def accs (n : Nat) : List (Int × Int) := (0, 0) :: (1, 0) :: (List.range n).map (fun j : Nat => ((2 : Int), (j : Int)))
def aC (a : Int × Int) : List Value := [.int .u8 a.1, .int .i64 a.2]
def aF (l : List (Int × Int)) : List Value := l.flatMap aC
theorem accs_len (n : Nat) : (accs n).length = 2 + n := by simp [accs]; omega
theorem accs_succ (n : Nat) : accs (n + 1) = accs n ++ [(2, (n : Int))] := by simp [accs, List.range_succ]
theorem aF_snoc (l : List (Int × Int)) (a : Int × Int) : aF (l ++ [a]) = aF l ++ aC a := by simp [aF]
theorem aF_at {l : List (Int × Int)} {k j : Nat} (h : k < l.length) (hj : j < 2) : (aF l)[k * 2 + j]? = (aC (l.getD k (0, 0)))[j]? := by
  induction l generalizing k with
  | nil => simp at h
  | cons x r ih =>
    unfold aF; rw [List.flatMap_cons]
    cases k with
    | zero => rw [Nat.zero_mul, Nat.zero_add, List.getElem?_append_left (by simp [aC]; omega)]; rfl
    | succ k =>
      rw [List.getElem?_append_right (by simp [aC]; omega), show (k + 1) * 2 + j - (aC x).length = k * 2 + j by simp [aC]; omega]
      simp at h
      exact ih (by omega)
def RetAccs (l : List (Int × Int)) (w : World) (e : Ending) (w' : World) : Prop := ∃ v, e = .returned v ∧ w'.ownsRow w.heap.size 60 2 v l.length (aF l) ∧ Below w.heap.size w w'
theorem info92' : ∃ i0, Tryz.prog.info? 60 = some i0 ∧ i0.zero = some (.agg #[.int .u8 0, .int .i64 0]) ∧ i0.size = 2 ∧ i0.bytes = 16 := info_parts (by kernel_rfl)
set_option maxRecDepth 100000 in
set_option maxHeartbeats 4000000 in
theorem accounts_any (ho fi : S23) (A : Option Addr) (c : Nat) (l : List S93) (w : World) (hr : Kd.C k93 w A l.length l) (hv : bookErr ho fi l = 0) :
    Calls Tryz.prog 27 #[.agg #[.int .i64 ho.f0, .int .i64 ho.f1, .int .i64 fi.f0, .int .i64 fi.f1, .slice A l.length c]] w (RetAccs (accs (keptOf l).hs.length) w) := by
  have hu := Tryz.underlying76
  have hu1 := Tryz.underlying41
  have hu2 := Tryz.underlying60
  have hu3 := Tryz.underlying57
  have hbel := ((Below.refl w.heap.size w).alloc (Nat.le_refl _) (.cells #[.int .i64 ho.f0, .int .i64 ho.f1, .int .i64 fi.f0, .int .i64 fi.f1, .slice A l.length c] 26)).alloc (by simp) (.cells #[.int .u8 0, .int .i64 0, .int .u8 1, .int .i64 0] 60)
  have e0 := alloc_old (o' := (.cells #[.int .u8 0, .int .i64 0, .int .u8 1, .int .i64 0] 60)) (World.alloc_heap_new w (.cells #[.int .i64 ho.f0, .int .i64 ho.f1, .int .i64 fi.f0, .int .i64 fi.f1, .slice A l.length c] 26))
  have e1 := World.alloc_heap_new (w.alloc (.cells #[.int .i64 ho.f0, .int .i64 ho.f1, .int .i64 fi.f0, .int .i64 fi.f1, .slice A l.length c] 26)) (.cells #[.int .u8 0, .int .i64 0, .int .u8 1, .int .i64 0] 60)
  have HV := hid hv
  have HL := hid (bookOk_of hv).len
  simp only [World.size_alloc] at e1
  have ho0 : ((w.alloc (.cells #[.int .i64 ho.f0, .int .i64 ho.f1, .int .i64 fi.f0, .int .i64 fi.f1, .slice A l.length c] 26)).alloc (.cells #[.int .u8 0, .int .i64 0, .int .u8 1, .int .i64 0] 60)).ownsRow (w.heap.size + 1) 60 2 (.slice (some ⟨w.heap.size + 1, 0, none⟩) 2 2) 2 (aF (accs 0)) :=
    ⟨rfl, .inr ⟨_, 2, _, rfl, Nat.le_refl _, e1, Nat.le_refl _, by decide, rfl, rfl⟩⟩
  go_enter Tryz.func27, Tryz.ntmps27
  go_wp2_with fail
  generalize ((w.alloc (.cells #[.int .i64 ho.f0, .int .i64 ho.f1, .int .i64 fi.f0, .int .i64 fi.f1, .slice A l.length c] 26)).alloc (.cells #[.int .u8 0, .int .i64 0, .int .u8 1, .int .i64 0] 60)) = W2 at *
  refine (kept_any ho fi A c l _ (Kd.C_below hr hbel) (by have := HL.out; omega) (stepOk_all HV.out)).mono ?_
  rintro e W3 ⟨vh, vp, Bm, rfl, hBm, hrh, hrp, hmp, hb⟩
  obtain ⟨Ah, ch, rfl⟩ := own_slice hrh
  obtain ⟨Ap, cp, rfl⟩ := own_slice hrp
  have hf := fieldB0 Ah Ap (keptOf l).hs.length ch (keptOf l).ps.length cp (some Bm) W3
  have HN := hid (show (keptOf l).hs.length ≤ 256 by have := kept_len l l.length (Nat.le_refl _); rw [List.take_length] at this; have := HL.out; omega)
  have H3 := hid (And.intro (hbel.trans (hb.mono hbel.size)) (rings_set ho0 hb))
  clear hb hBm hrh hrp hmp e0 e1 ho0 hbel hv
  go_wp2
  clear hf
  generalize (keptOf l).hs.length = n at *
  go_loopw [3, 12] (fun v3 v12 X => ∃ k : Nat, k ≤ n ∧ v12 = .int .i64 k ∧ ∃ A' m' c', v3 = .slice A' m' c' ∧ Hid (Below w.heap.size w X ∧ X.ownsRow (w.heap.size + 1) 60 2 (.slice A' m' c') (2 + k) (aF (accs k)))) (fun v3 v12 _ => n - (intOf v12).toNat)
  case atStart => exact ⟨0, by omega, rfl, _, _, _, rfl, H3⟩
  case round =>
    obtain ⟨k, hk, rfl, A', m', c', rfl, HX⟩ := hrel
    rename World => Wk
    by_cases hlt : k < n
    · have hmb := HN.out
      go_wp2_with (at_builtin; refine Hid.out ?_)
      refine hid ?_
      obtain ⟨hb5, ho5⟩ := HX.out
      have hgr := (Below.refl Wk.heap.size Wk).alloc (Nat.le_refl _) (.cells #[.int .u8 2, .int .i64 k] 60)
      have hnew := World.alloc_heap_new Wk (.cells #[.int .u8 2, .int .i64 k] 60)
      have hb6 := hb5.trans (hgr.mono hb5.size)
      have ho6 := rings_set ho5 hgr
      have hs6 : w.heap.size + 1 ≤ (Wk.alloc (.cells #[.int .u8 2, .int .i64 k] 60)).heap.size := by have := hb5.size; simp; omega
      generalize Wk.alloc (.cells #[.int .u8 2, .int .i64 k] 60) = W7 at *
      generalize Wk.heap.size = B6 at *
      obtain ⟨i0, hi, hz0, hz1, hz2⟩ := info92'
      refine wpList_append_own W7 rfl _ _ 57 rfl (w.heap.size + 1) 60 i0 _ 2 16 Tryz.underlying57 hi hz0 hz1 hz2 rfl (by decide) (.slice A' m' c') (2 + k) (aF (accs k)) rfl ho6 ⟨B6, 0, none⟩ 1 1 (aC (2, (k : Int))) rfl rfl (row_cells hnew) (by simp [aC, Value.oneCell']) (by unfold maxLen; omega) (by omega) hs6 ?_
      intro v' W8 hown' hgrow _
      obtain ⟨g', cap', rfl⟩ := ownsRow_succ hown'
      have hb8 := hb6.grown hgrow hb6.size (fun j hj => by have := (ho6.lt j hj).1; omega)
      have HF := hid (And.intro hb8 hown')
      have HLT := hid hlt
      clear hgr hnew hb6 ho6 hs6 hi hz0 hz1 hz2 hown' hgrow hb8 hb5 ho5 HX
      go_wp2
      go_roundw
      case rel => exact ⟨k + 1, by have := HLT.out; omega, by go_num, _, _, _, rfl, hid ⟨HF.out.1, by rw [accs_succ, aF_snoc]; exact HF.out.2⟩⟩
      case measure => have := HLT.out; simp [intOf]; omega
    · obtain rfl : k = n := by omega
      go_wp2
      go_ret
      exact ⟨_, rfl, by rw [accs_len]; exact own_lower (by omega) HX.out.2, HX.out.1⟩
end Go.Proofs.YtbmkbokkmmdjdaaGreat
end
