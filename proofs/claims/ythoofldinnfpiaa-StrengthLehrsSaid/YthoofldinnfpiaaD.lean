import Derived.Test.YthoofldinnfpiaaC
namespace Go.Proofs.Ythoofldinnfpiaa
open Go.RowKit Go.Proofs.YthoofldinnfpiaaW.PrintWords Go.Proofs.YthoofldinnfpiaaW.PrintLast Go.Proofs.YthoofldinnfpiaaW.PrintMore
open Q Go.Shelf
theorem wide_fn (f : FuncId) : Fence.wide.fn f = True := rfl
attribute [local go_sem] Oper.semAt_some wide_depth wide_fn
def botV (A : Option Addr) (n c : Nat) (fl tg : Int) : Value := .agg #[.slice A n c, .int .i64 fl, .int .i64 tg]
theorem enters99 : ∀ args w, (callFunc 99 args).run Try.prog w = .ok (.enter 99 args) w := enters_of Try.func99 (by kernel_rfl) rfl
theorem rings_any (A : Option Addr) (n c : Nat) (fl tg : Int) (w : World) :
    Calls Try.prog 54 #[.agg #[.slice A n c, .int .i64 fl, .int .i64 tg]] w fun e w' => e = .returned (.func (.func 99) #[] #[.pointer (some ⟨w.heap.size, 0, none⟩)]) ∧ w.alloc (.cells #[.slice A n c, .int .i64 fl, .int .i64 tg] 24) = w' := by
  have hmf := makeFunc_any
  go_enter Try.func54, Try.ntmps54
  go_wp2
  go_ret
  exact ⟨rfl, rfl⟩
def okA (r : S82) : Bool := spanB r.f0.f0 r.f0.f1 1 1000
def okB (r : S82) : Bool := spanB r.f1.f0 r.f1.f1 1 5000
def okC (r : S82) : Bool := spanB r.f2.f0 r.f2.f1 0 1000
def okD (r : S82) : Bool := spanB r.f3.f0 r.f3.f1 0 10000
def okE (r : S82) : Bool := spanB r.f4.f0 r.f4.f1 0 10000
def ringOk (r : S82) : Bool := okA r && (okB r && (okC r && (okD r && okE r)))
def lowSum (l : List S82) : Int := (l.map (·.f2.f0)).sum
def highSum (l : List S82) : Int := (l.map (·.f2.f1)).sum
/-- the first error of a bottle -/
def checkOf (l : List S82) (fl tg : Int) : Int :=
  if 24 < l.length then 3 else if l.length = 0 then 1 else if l.all ringOk = false then 1
  else if (decide (lowSum l ≤ 1000) && decide (1000 ≤ highSum l)) = false then 12
  else if (betw fl 1 1000 && betw tg 0 1000000000000000) = false then 1 else 0
theorem cell_lt {W : World} {b o : Nat} {v : Value} (h : W.cell? ⟨b, o, none⟩ = some v) : b < W.heap.size := by
  unfold World.cell? at h
  cases ho : W.heap[b]? with
  | none => simp [ho] at h
  | some o => exact (Array.getElem?_eq_some_iff.1 ho).1
theorem cell_grow {W W' : World} {b o : Nat} {v : Value} (h : W.cell? ⟨b, o, none⟩ = some v) (hb : Below W.heap.size W W') : W'.cell? ⟨b, o, none⟩ = some v := (hb.cell (p := ⟨b, o, none⟩) (cell_lt h)).trans h
theorem frozen_grow {W W' : World} {b o : Nat} {v : Value} (h : W.cell? ⟨b, o, none⟩ = some v) (hf : W.frozen? ⟨b, o, none⟩ = false) (hb : Below W.heap.size W W') : W'.frozen? ⟨b, o, none⟩ = false := (hb.frozen (p := ⟨b, o, none⟩) (cell_lt h)).trans hf
theorem alloc_old {W : World} {k : Nat} {o o' : Obj} (h : W.heap[k]? = some o) : (W.alloc o').heap[k]? = some o := (Below.heap_alloc _ _ _ (Array.getElem?_eq_some_iff.1 h).1).trans h
theorem blkFrozen {W : World} {b : Nat} {cs : Array Value} {t : TypeId} (h : W.heap[b]? = some (.cells cs t (0, 0))) (j : Nat) : W.frozen? ⟨b, j, none⟩ = false := by
  simp [World.frozen?, h]
def BodyS (b1 b2 Bx : Nat) (r : S82) (lo hi : Int) (W : World) : Prop :=
  W.cell? ⟨Bx, 0, none⟩ = some (.int .i64 r.f0.f0) ∧ W.cell? ⟨Bx, 1, none⟩ = some (.int .i64 r.f0.f1) ∧ W.cell? ⟨Bx, 2, none⟩ = some (.int .i64 r.f1.f0) ∧ W.cell? ⟨Bx, 3, none⟩ = some (.int .i64 r.f1.f1) ∧
  W.cell? ⟨Bx, 4, none⟩ = some (.int .i64 r.f2.f0) ∧ W.cell? ⟨Bx, 5, none⟩ = some (.int .i64 r.f2.f1) ∧ W.cell? ⟨Bx, 6, none⟩ = some (.int .i64 r.f3.f0) ∧ W.cell? ⟨Bx, 7, none⟩ = some (.int .i64 r.f3.f1) ∧
  W.cell? ⟨Bx, 8, none⟩ = some (.int .i64 r.f4.f0) ∧ W.cell? ⟨Bx, 9, none⟩ = some (.int .i64 r.f4.f1) ∧
  W.cell? ⟨b1, 0, none⟩ = some (.int .i64 lo) ∧ W.frozen? ⟨b1, 0, none⟩ = false ∧ W.cell? ⟨b2, 0, none⟩ = some (.int .i64 hi) ∧ W.frozen? ⟨b2, 0, none⟩ = false
theorem BodyS.of {b1 b2 Bx : Nat} {r : S82} {lo hi : Int} {W : World} (h1 : W.heap[b1]? = some (.cells #[.int .i64 lo] 3 (0, 0))) (h2 : W.heap[b2]? = some (.cells #[.int .i64 hi] 3 (0, 0))) (h3 : W.heap[Bx]? = some (.cells (ringC r) 82 (0, 0))) : BodyS b1 b2 Bx r lo hi W :=
  ⟨blkCell h3 0, blkCell h3 1, blkCell h3 2, blkCell h3 3, blkCell h3 4, blkCell h3 5, blkCell h3 6, blkCell h3 7, blkCell h3 8, blkCell h3 9, blkCell h1 0, blkFrozen h1 0, blkCell h2 0, blkFrozen h2 0⟩
theorem BodyS.grow {b1 b2 Bx : Nat} {r : S82} {lo hi : Int} {W W' : World} (h : BodyS b1 b2 Bx r lo hi W) (hb : Below W.heap.size W W') : BodyS b1 b2 Bx r lo hi W' := by
  obtain ⟨h0, h1, h2, h3, h4, h5, h6, h7, h8, h9, l1, f1, l2, f2⟩ := h
  exact ⟨cell_grow h0 hb, cell_grow h1 hb, cell_grow h2 hb, cell_grow h3 hb, cell_grow h4 hb, cell_grow h5 hb, cell_grow h6 hb, cell_grow h7 hb, cell_grow h8 hb, cell_grow h9 hb, cell_grow l1 hb, frozen_grow l1 f1 hb, cell_grow l2 hb, frozen_grow l2 f2 hb⟩
theorem span_body {b1 b2 Bx : Nat} {r : S82} {lo hi : Int} {w0 : World} (a b l h : Int) (w : World) (lp : Nat) (hS : BodyS b1 b2 Bx r lo hi w) (hb : Below w0.heap.size w0 w) : CallsIn (Fence.wide.inRound lp) 0 Try.prog 53 #[.agg #[.int .i64 a, .int .i64 b], .int .i64 l, .int .i64 h] w fun e w' => e = .returned (.bool (spanB a b l h)) ∧ BodyS b1 b2 Bx r lo hi w' ∧ Hid (BodyS b1 b2 Bx r lo hi w') ∧ Hid (Below w0.heap.size w0 w') :=
  CallsIn.inRound lp (callsIn_wide.2 ((span_any a b l h w).mono fun _ _ ⟨he, hb'⟩ => ⟨he, hS.grow hb', hS.grow hb', hb.trans (hb'.mono hb.size)⟩))
theorem keeps_of_below {W W' : World} (h : Below W.heap.size W W') : KeepsOthers W W' := ⟨h.size, fun k _ hk _ => (h.block k (Array.getElem?_eq_some_iff.1 hk).1).trans hk⟩
theorem heap_set_same {W : World} {b : Nat} {u v : Value} {t : TypeId} {fr : Nat × Nat} (h : W.heap[b]? = some (.cells #[u] t fr)) : (W.setCell ⟨b, 0, none⟩ v).heap[b]? = some (.cells #[v] t fr) := by
  simp [World.setCell, Array.getElem?_modify, h]
theorem heap_set_other {W : World} {b k : Nat} {v : Value} {o : Obj} (hne : k ≠ b) (h : W.heap[k]? = some o) : (W.setCell ⟨b, 0, none⟩ v).heap[k]? = some o := (Below.heap_setCell _ _ _ _ hne).trans h
theorem heap_grow {W W' : World} {k : Nat} {o : Obj} (h : W.heap[k]? = some o) (hb : Below W.heap.size W W') : W'.heap[k]? = some o := (hb.block k (Array.getElem?_eq_some_iff.1 h).1).trans h
/-- what holds between two rounds of check -/
def CheckI (w : World) (A : Option Addr) (c : Nat) (l : List S82) (fl tg : Int) (k : Nat) (W : World) : Prop :=
  Reads (w.heap.size + 3) A c l fl tg W ∧ W.heap[w.heap.size]? = some (.cells #[.slice A l.length c, .int .i64 fl, .int .i64 tg] 24 (0, 0)) ∧ W.heap[w.heap.size + 1]? = some (.cells #[.int .i64 (lowSum (l.take k))] 3 (0, 0)) ∧ W.heap[w.heap.size + 2]? = some (.cells #[.int .i64 (highSum (l.take k))] 3 (0, 0)) ∧ (l.take k).all ringOk = true ∧ Below w.heap.size w W
theorem lowSum_snoc {l : List S82} {k : Nat} (h : k < l.length) : lowSum (l.take (k + 1)) = lowSum (l.take k) + l[k].f2.f0 := by
  unfold lowSum; rw [List.take_succ_eq_append_getElem h, List.map_append, List.sum_append]; simp only [List.map_cons, List.map_nil, List.sum_cons, List.sum_nil, Int.add_zero]
theorem highSum_snoc {l : List S82} {k : Nat} (h : k < l.length) : highSum (l.take (k + 1)) = highSum (l.take k) + l[k].f2.f1 := by
  unfold highSum; rw [List.take_succ_eq_append_getElem h, List.map_append, List.sum_append]; simp only [List.map_cons, List.map_nil, List.sum_cons, List.sum_nil, Int.add_zero]
theorem CheckI.turn {w W W' : World} {A : Option Addr} {c : Nat} {l : List S82} {fl tg : Int} {k : Nat} (hr : Kd.C k82 w A l.length l) (h : CheckI w A c l fl tg k W) {B : Nat} (hB : w.heap.size ≤ B) (ht : Turn B W W') : CheckI w A c l fl tg k W' := by
  obtain ⟨⟨a1, a2⟩, a3, a4, a5, a6, a7⟩ := h
  have hb := a7.trans (ht.below.mono hB)
  exact ⟨⟨ht.cells _ _ a1 rfl, Kd.C_below hr hb⟩, ht.cells _ _ a3 rfl, ht.cells _ _ a4 rfl, ht.cells _ _ a5 rfl, a6, hb⟩
theorem CheckI.next {w W W' : World} {A : Option Addr} {c : Nat} {l : List S82} {fl tg : Int} {k : Nat} (hr : Kd.C k82 w A l.length l) (hlt : k < l.length) (h : CheckI w A c l fl tg k W) (hok : ringOk l[k] = true) (hb : Below W.heap.size W W') :
    KeepsOthers W ((W'.setCell ⟨w.heap.size + 1, 0, none⟩ (.int .i64 (lowSum (l.take k) + l[k].f2.f0))).setCell ⟨w.heap.size + 2, 0, none⟩ (.int .i64 (highSum (l.take k) + l[k].f2.f1))) ∧
    CheckI w A c l fl tg (k + 1) ((W'.setCell ⟨w.heap.size + 1, 0, none⟩ (.int .i64 (lowSum (l.take k) + l[k].f2.f0))).setCell ⟨w.heap.size + 2, 0, none⟩ (.int .i64 (highSum (l.take k) + l[k].f2.f1))) := by
  obtain ⟨⟨a1, a2⟩, a3, a4, a5, a6, a7⟩ := h
  have hbel := ((a7.trans (hb.mono a7.size)).setCell (p := ⟨w.heap.size + 1, 0, none⟩) (by simp) (.int .i64 (lowSum (l.take k) + l[k].f2.f0))).setCell (p := ⟨w.heap.size + 2, 0, none⟩) (by simp) (.int .i64 (highSum (l.take k) + l[k].f2.f1))
  refine ⟨((keeps_of_below hb).trans (KeepsOthers.setCell _ _ _)).trans (KeepsOthers.setCell _ _ _), ⟨heap_set_other (by omega) (heap_set_other (by omega) (heap_grow a1 hb)), Kd.C_below hr hbel⟩, heap_set_other (by omega) (heap_set_other (by omega) (heap_grow a3 hb)), ?_, ?_, ?_, hbel⟩
  · rw [lowSum_snoc hlt]; exact heap_set_other (by omega) (heap_set_same (heap_grow a4 hb))
  · rw [highSum_snoc hlt]; exact heap_set_same (heap_set_other (by omega) (heap_grow a5 hb))
  · rw [List.take_succ_eq_append_getElem hlt, List.all_append, a6]; simp [hok]
theorem sums_bd {l : List S82} : ∀ {k : Nat}, k ≤ l.length → (l.take k).all ringOk = true → 0 ≤ lowSum (l.take k) ∧ lowSum (l.take k) ≤ 1000 * k ∧ 0 ≤ highSum (l.take k) ∧ highSum (l.take k) ≤ 1000 * k := by
  intro k
  induction k with
  | zero => intro _ _; simp [lowSum, highSum]
  | succ k ih =>
    intro hk h
    rw [List.take_succ_eq_append_getElem hk, List.all_append, Bool.and_eq_true] at h
    obtain ⟨h1, h2⟩ := h
    obtain ⟨b1, b2, b3, b4⟩ := ih (by omega) h1
    simp only [List.all_cons, List.all_nil, Bool.and_true, ringOk, okC, spanB, Bool.and_eq_true, decide_eq_true_eq] at h2
    obtain ⟨_, _, h3, _⟩ := h2
    rw [lowSum_snoc hk, highSum_snoc hk]
    omega
theorem all_false {l : List S82} {k : Nat} (hlt : k < l.length) (h : ringOk l[k] = false) : l.all ringOk = false := by
  rw [Bool.eq_false_iff]; intro hc; rw [List.all_eq_true] at hc; rw [hc _ (List.getElem_mem hlt)] at h; cases h
def Ends (c : Int) (w : World) (e : Ending) (w' : World) : Prop := (e = if c = 0 then .returned (.tuple #[]) else .panicked (fail c)) ∧ Below w.heap.size w w'
set_option maxRecDepth 100000 in
set_option maxHeartbeats 1000000 in
theorem check_any (A : Option Addr) (c : Nat) (l : List S82) (fl tg : Int) (w : World) (hr : Kd.C k82 w A l.length l) :
    Calls Try.prog 51 #[.agg #[.slice A l.length c, .int .i64 fl, .int .i64 tg]] w (Ends (checkOf l fl tg) w) := by
  have HB := Below.refl w.heap.size w
  by_cases h1 : l.length ≤ 24
  · by_cases h2 : 0 < l.length
    · have k1 : decide ((l.length : Int) ≤ 24) = true := by simp; omega
      have k2 : decide (0 < (l.length : Int)) = true := by simp; omega
      have k3 : decide (0 < l.length) = true := by simp; omega
      have k4 : decide (l.length ≤ 24) = true := by simp; omega
      refine calls_of_wpF Try.func51 rfl ?_
      simp only [Try.ntmps51, List.size_toArray, List.length_cons, List.length_nil, Nat.reduceAdd, Nat.reduceSub, Array.replicate_succ, Array.replicate_zero, List.push_toArray, List.append_toArray, List.nil_append, List.cons_append]
      refine wpF_seq (wpF_of_wp ?_)
      go_wp2
      refine wpF_seq (wpF_of_wp ?_)
      go_wp2_with (first | (go_at_call 52; refine (demand_ok _ _).mono ?_; rintro e w' ⟨rfl, rfl⟩))
      refine wpF_seq (wpF_of_wp ?_)
      go_wp2_with (first | (go_at_call 52; refine (demand_ok _ _).mono ?_; rintro e w' ⟨rfl, rfl⟩))
      refine wpF_seq (wpF_of_wp ?_)
      go_wp2
      refine wpF_seq (wpF_seq (wpF_of_wp ?_))
      go_wp2_with (first | (go_at_call 54; refine (rings_any _ _ _ _ _ _).mono ?_; rintro e w' ⟨rfl, rfl⟩))
      refine wpF_block ?_
      clear k1 k2 k3 k4
      refine wpF_range (N := l.length) Try.func51 rfl enters99 (rings_iter _ A c l fl tg (by omega)) (fun _ => rfl)
        (CheckI w A c l fl tg)
        (fun _ _ => False) (fun ch W => ch = fail 1 ∧ l.all ringOk = false ∧ Below w.heap.size w W)
        ?hI ?hIr ?hsz ?hRd ?h0 ?round ?done ?stop ?pan
      case round =>
        intro lp k W hlt hI
        have hg : l.getD k z82 = l[k] := by simp [List.getD, hlt]
        simp only [ringV, hg]
        gi_wp2
        refine ⟨(KeepsOthers.alloc _ _), fun w₂ ht => ?_⟩
        have hI2 : CheckI w A c l fl tg k w₂ := hI.turn hr (by simp) ((Turn.alloc (B := w.heap.size + 4) (by have := cell_lt (blkCell hI.1.box 0); omega) _).trans (by simpa using ht))
        have hS : BodyS (w.heap.size + 1) (w.heap.size + 2) W.heap.size l[k] (lowSum (l.take k)) (highSum (l.take k)) w₂ := BodyS.of hI2.2.2.1 hI2.2.2.2.1 (ht.cells _ _ (World.alloc_heap_new _ _) rfl)
        have HI := hid hI2
        have hsb := sums_bd (Nat.le_of_lt hlt) hI2.2.2.2.2.1
        obtain ⟨sb1, sb2, sb3, sb4⟩ := hsb
        have HS := hid hS
        have HW := hid (Below.refl w₂.heap.size w₂)
        obtain ⟨h0, h1, h2, h3, h4, h5, h6, h7, h8, h9, l1, f1, l2, f2⟩ := hS
        clear ht hI hI2 HB hg
        cases hA : spanB l[k].f0.f0 l[k].f0.f1 1 1000 with
        | false =>
          gi_wp2_with (first | (gi_at_call 53; refine (span_body _ _ _ _ _ _ HS.out HW.out).mono ?_; clear HS HW h0 h1 h2 h3 h4 h5 h6 h7 h8 h9 l1 f1 l2 f2; rintro e w3 ⟨rfl, ⟨h0, h1, h2, h3, h4, h5, h6, h7, h8, h9, l1, f1, l2, f2⟩, HS, HW⟩) | (gi_at_call 52; refine (CallsIn.inRound lp (callsIn_wide.2 (demand_no _ _))).mono ?_; rintro e w3 ⟨rfl, rfl⟩))
          exact ⟨rfl, keeps_of_below HW.out, rfl, all_false hlt (by simp [ringOk, okA, hA]), HI.out.2.2.2.2.2.trans (HW.out.mono HI.out.2.2.2.2.2.size)⟩
        | true =>
        cases hB : spanB l[k].f1.f0 l[k].f1.f1 1 5000 with
        | false =>
          gi_wp2_with (first | (gi_at_call 53; refine (span_body _ _ _ _ _ _ HS.out HW.out).mono ?_; clear HS HW h0 h1 h2 h3 h4 h5 h6 h7 h8 h9 l1 f1 l2 f2; rintro e w3 ⟨rfl, ⟨h0, h1, h2, h3, h4, h5, h6, h7, h8, h9, l1, f1, l2, f2⟩, HS, HW⟩) | (gi_at_call 52; refine (CallsIn.inRound lp (callsIn_wide.2 (demand_no _ _))).mono ?_; rintro e w3 ⟨rfl, rfl⟩))
          exact ⟨rfl, keeps_of_below HW.out, rfl, all_false hlt (by simp [ringOk, okA, okB, hA, hB]), HI.out.2.2.2.2.2.trans (HW.out.mono HI.out.2.2.2.2.2.size)⟩
        | true =>
        cases hC : spanB l[k].f2.f0 l[k].f2.f1 0 1000 with
        | false =>
          gi_wp2_with (first | (gi_at_call 53; refine (span_body _ _ _ _ _ _ HS.out HW.out).mono ?_; clear HS HW h0 h1 h2 h3 h4 h5 h6 h7 h8 h9 l1 f1 l2 f2; rintro e w3 ⟨rfl, ⟨h0, h1, h2, h3, h4, h5, h6, h7, h8, h9, l1, f1, l2, f2⟩, HS, HW⟩) | (gi_at_call 52; refine (CallsIn.inRound lp (callsIn_wide.2 (demand_no _ _))).mono ?_; rintro e w3 ⟨rfl, rfl⟩))
          exact ⟨rfl, keeps_of_below HW.out, rfl, all_false hlt (by simp [ringOk, okA, okB, okC, hA, hB, hC]), HI.out.2.2.2.2.2.trans (HW.out.mono HI.out.2.2.2.2.2.size)⟩
        | true =>
        cases hD : spanB l[k].f3.f0 l[k].f3.f1 0 10000 with
        | false =>
          gi_wp2_with (first | (gi_at_call 53; refine (span_body _ _ _ _ _ _ HS.out HW.out).mono ?_; clear HS HW h0 h1 h2 h3 h4 h5 h6 h7 h8 h9 l1 f1 l2 f2; rintro e w3 ⟨rfl, ⟨h0, h1, h2, h3, h4, h5, h6, h7, h8, h9, l1, f1, l2, f2⟩, HS, HW⟩) | (gi_at_call 52; refine (CallsIn.inRound lp (callsIn_wide.2 (demand_no _ _))).mono ?_; rintro e w3 ⟨rfl, rfl⟩))
          exact ⟨rfl, keeps_of_below HW.out, rfl, all_false hlt (by simp [ringOk, okA, okB, okC, okD, hA, hB, hC, hD]), HI.out.2.2.2.2.2.trans (HW.out.mono HI.out.2.2.2.2.2.size)⟩
        | true =>
        cases hE : spanB l[k].f4.f0 l[k].f4.f1 0 10000 with
        | false =>
          gi_wp2_with (first | (gi_at_call 53; refine (span_body _ _ _ _ _ _ HS.out HW.out).mono ?_; clear HS HW h0 h1 h2 h3 h4 h5 h6 h7 h8 h9 l1 f1 l2 f2; rintro e w3 ⟨rfl, ⟨h0, h1, h2, h3, h4, h5, h6, h7, h8, h9, l1, f1, l2, f2⟩, HS, HW⟩) | (gi_at_call 52; refine (CallsIn.inRound lp (callsIn_wide.2 (demand_no _ _))).mono ?_; rintro e w3 ⟨rfl, rfl⟩))
          exact ⟨rfl, keeps_of_below HW.out, rfl, all_false hlt (by simp [ringOk, okA, okB, okC, okD, okE, hA, hB, hC, hD, hE]), HI.out.2.2.2.2.2.trans (HW.out.mono HI.out.2.2.2.2.2.size)⟩
        | true =>
        have hC0 := hC
        simp only [spanB, Bool.and_eq_true, decide_eq_true_eq] at hC0
        obtain ⟨q1, q2, q3⟩ := hC0
        gi_wp2_with (first | (gi_at_call 53; refine (span_body _ _ _ _ _ _ HS.out HW.out).mono ?_; clear HS HW h0 h1 h2 h3 h4 h5 h6 h7 h8 h9 l1 f1 l2 f2; rintro e w3 ⟨rfl, ⟨h0, h1, h2, h3, h4, h5, h6, h7, h8, h9, l1, f1, l2, f2⟩, HS, HW⟩) | (gi_at_call 52; refine (CallsIn.inRound lp (callsIn_wide.2 (demand_ok _ _))).mono ?_; rintro e w3 ⟨rfl, rfl⟩))
        exact CheckI.next hr hlt HI.out (by simp [ringOk, okA, okB, okC, okD, okE, hA, hB, hC, hD, hE]) HW.out
      case hI => exact fun k W W' h ht => CheckI.turn hr h (by simp; omega) ht
      case hIr => exact fun _ _ _ h _ => h
      case hsz => exact fun k W h => by have := cell_lt (blkCell h.1.box 0); simp; omega
      case hRd => exact fun k W h => h.1
      case h0 =>
        have a0 := World.alloc_heap_new w (.cells #[.slice A l.length c, .int .i64 fl, .int .i64 tg] 24)
        have a1 := World.alloc_heap_new (w.alloc (.cells #[.slice A l.length c, .int .i64 fl, .int .i64 tg] 24)) (.cells #[.int .i64 0] 3)
        have a2 := World.alloc_heap_new ((w.alloc (.cells #[.slice A l.length c, .int .i64 fl, .int .i64 tg] 24)).alloc (.cells #[.int .i64 0] 3)) (.cells #[.int .i64 0] 3)
        have a3 := World.alloc_heap_new (((w.alloc (.cells #[.slice A l.length c, .int .i64 fl, .int .i64 tg] 24)).alloc (.cells #[.int .i64 0] 3)).alloc (.cells #[.int .i64 0] 3)) (.cells #[.slice A l.length c, .int .i64 fl, .int .i64 tg] 24)
        simp only [World.size_alloc] at a1 a2 a3
        have hbel := (((HB.alloc (Nat.le_refl _) (.cells #[.slice A l.length c, .int .i64 fl, .int .i64 tg] 24)).alloc (by simp) (.cells #[.int .i64 0] 3)).alloc (by simp; omega) (.cells #[.int .i64 0] 3)).alloc (by simp; omega) (.cells #[.slice A l.length c, .int .i64 fl, .int .i64 tg] 24)
        exact ⟨⟨a3, Kd.C_below hr hbel⟩, alloc_old (alloc_old (alloc_old a0)), alloc_old (alloc_old a1), alloc_old a2, rfl, hbel⟩
      case stop => exact fun _ _ _ h => h.elim
      case pan =>
        rintro D ch W ⟨rfl, hf, hb⟩ hD hle
        refine ⟨by simp, .inl ⟨_, _, rfl, run_takeDeferred hD, ?_⟩⟩
        refine ⟨?_, hb.trans (below_putObj _ _ (by simp at hle; omega))⟩
        rw [show checkOf l fl tg = 1 by unfold checkOf; rw [if_neg (by omega), if_neg (by omega), if_pos hf]]
        rfl
      case done =>
        intro D W hI hD hle
        show wpF Try.prog 51 _ _ _ _
        have hsb := sums_bd (Nat.le_refl _) hI.2.2.2.2.1
        have hfin := hI.2.2.2.2.2.trans (below_putObj (B := w.heap.size) W (.deferred none) (by simp at hle; omega : w.heap.size ≤ D))
        obtain ⟨hR, hb0, hb1, hb2, hall, hbel⟩ := hI
        rw [List.take_length] at hb1 hb2 hall hsb
        have g1 := blkCell hb0 1
        have g2 := blkCell hb0 2
        have l1 := blkCell hb1 0
        have l2 := blkCell hb2 0
        simp at g1 g2 l1 l2
        have HD := hid hD
        have HF := hid hfin
        clear hR hb0 hb1 hb2 hbel hD hfin hle HB hsb
        have hv0 : checkOf l fl tg = if (decide (lowSum l ≤ 1000) && decide (1000 ≤ highSum l)) = false then 12 else if (betw fl 1 1000 && betw tg 0 1000000000000000) = false then 1 else 0 := by
          unfold checkOf; rw [if_neg (by omega), if_neg (by omega), if_neg (by rw [hall]; simp)]
        have HH := hid hv0
        clear hv0 hall
        cases s1 : decide (lowSum l ≤ 1000) with
        | false =>
          have HV : Hid (checkOf l fl tg = 12) := by rw [Hid, HH.out, s1]; rfl
          refine wpF_seq (wpF_of_wp ?_)
          go_wp2_with (first | (go_at_call 67; refine (within_any _ _ _ _).mono ?_; rintro e w3 ⟨rfl, rfl⟩) | (go_at_call 52; refine (demand_no _ _).mono ?_; rintro e w3 ⟨rfl, rfl⟩))
          refine ⟨by simp, .inl ⟨_, _, rfl, run_takeDeferred HD.out, ?_⟩⟩
          exact ⟨by rw [HV.out]; rfl, HF.out⟩
        | true =>
        cases s2 : decide (1000 ≤ highSum l) with
        | false =>
          have HV : Hid (checkOf l fl tg = 12) := by rw [Hid, HH.out, s1, s2]; rfl
          refine wpF_seq (wpF_of_wp ?_)
          go_wp2_with (first | (go_at_call 67; refine (within_any _ _ _ _).mono ?_; rintro e w3 ⟨rfl, rfl⟩) | (go_at_call 52; refine (demand_no _ _).mono ?_; rintro e w3 ⟨rfl, rfl⟩))
          refine ⟨by simp, .inl ⟨_, _, rfl, run_takeDeferred HD.out, ?_⟩⟩
          exact ⟨by rw [HV.out]; rfl, HF.out⟩
        | true =>
        refine wpF_seq (wpF_of_wp ?_)
        go_wp2_with (first | (go_at_call 67; refine (within_any _ _ _ _).mono ?_; rintro e w3 ⟨rfl, rfl⟩) | (go_at_call 52; refine (demand_ok _ _).mono ?_; rintro e w3 ⟨rfl, rfl⟩))
        cases s3 : betw fl 1 1000 with
        | false =>
          have HV : Hid (checkOf l fl tg = 1) := by rw [Hid, HH.out, s1, s2, s3]; rfl
          refine wpF_of_wp ?_
          go_wp2_with (first | (go_at_call 67; refine (within_any _ _ _ _).mono ?_; rintro e w3 ⟨rfl, rfl⟩) | (go_at_call 52; refine (demand_no _ _).mono ?_; rintro e w3 ⟨rfl, rfl⟩))
          refine ⟨by simp, .inl ⟨_, _, rfl, run_takeDeferred HD.out, ?_⟩⟩
          exact ⟨by rw [HV.out]; rfl, HF.out⟩
        | true =>
        cases s4 : betw tg 0 1000000000000000 with
        | false =>
          have HV : Hid (checkOf l fl tg = 1) := by rw [Hid, HH.out, s1, s2, s3, s4]; rfl
          refine wpF_of_wp ?_
          go_wp2_with (first | (go_at_call 67; refine (within_any _ _ _ _).mono ?_; rintro e w3 ⟨rfl, rfl⟩) | (go_at_call 52; refine (demand_no _ _).mono ?_; rintro e w3 ⟨rfl, rfl⟩))
          refine ⟨by simp, .inl ⟨_, _, rfl, run_takeDeferred HD.out, ?_⟩⟩
          exact ⟨by rw [HV.out]; rfl, HF.out⟩
        | true =>
          have HV : Hid (checkOf l fl tg = 0) := by rw [Hid, HH.out, s1, s2, s3, s4]; rfl
          refine wpF_of_wp ?_
          go_wp2_with (first | (go_at_call 67; refine (within_any _ _ _ _).mono ?_; rintro e w3 ⟨rfl, rfl⟩) | (go_at_call 52; refine (demand_ok _ _).mono ?_; rintro e w3 ⟨rfl, rfl⟩))
          refine ⟨by simp, .inl ⟨_, _, rfl, run_takeDeferred HD.out, ?_⟩⟩
          exact ⟨_, results_none rfl _ _ _, by rw [HV.out]; rfl, HF.out⟩
    · have k1 : decide (l.length ≤ 24) = true := by simp; omega
      have k2 : decide (0 < l.length) = false := decide_eq_false (by omega)
      have k3 : decide ((l.length : Int) ≤ 24) = true := by simp; omega
      have k4 : decide (0 < (l.length : Int)) = false := decide_eq_false (by omega)
      have HV : Hid (checkOf l fl tg = 1) := by unfold Hid checkOf; rw [if_neg (by omega), if_pos (by omega)]
      refine calls_of_wpF Try.func51 rfl ?_
      simp only [Try.ntmps51, List.size_toArray, List.length_cons, List.length_nil, Nat.reduceAdd, Nat.reduceSub, Array.replicate_succ, Array.replicate_zero, List.push_toArray, List.append_toArray, List.nil_append, List.cons_append]
      refine wpF_seq (wpF_of_wp ?_)
      go_wp2
      refine wpF_seq (wpF_of_wp ?_)
      go_wp2_with (first | (go_at_call 52; refine (demand_ok _ _).mono ?_; rintro e w3 ⟨rfl, rfl⟩))
      refine wpF_seq (wpF_of_wp ?_)
      go_wp2_with (first | (go_at_call 52; refine (demand_no _ _).mono ?_; rintro e w3 ⟨rfl, rfl⟩))
      exact ⟨by rw [HV.out]; rfl, HB.alloc (Nat.le_refl _) _⟩
  · have k1 : decide (l.length ≤ 24) = false := decide_eq_false (by omega)
    have k3 : decide ((l.length : Int) ≤ 24) = false := decide_eq_false (by omega)
    have HV : Hid (checkOf l fl tg = 3) := by unfold Hid checkOf; rw [if_pos (by omega)]
    refine calls_of_wpF Try.func51 rfl ?_
    simp only [Try.ntmps51, List.size_toArray, List.length_cons, List.length_nil, Nat.reduceAdd, Nat.reduceSub, Array.replicate_succ, Array.replicate_zero, List.push_toArray, List.append_toArray, List.nil_append, List.cons_append]
    refine wpF_seq (wpF_of_wp ?_)
    go_wp2
    refine wpF_seq (wpF_of_wp ?_)
    go_wp2_with (first | (go_at_call 52; refine (demand_no _ _).mono ?_; rintro e w3 ⟨rfl, rfl⟩))
    exact ⟨by rw [HV.out]; rfl, HB.alloc (Nat.le_refl _) _⟩
end Go.Proofs.Ythoofldinnfpiaa
