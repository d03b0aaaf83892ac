-- QB J3 J4 (wip/pack9.py)
import Derived.Test.YtbmkbokkmmdjdaaGreatP26
section
namespace Go.Proofs.YtbmkbokkmmdjdaaGreat
open Go.RowKit Go.Proofs.YtbmkbokkmmdjdaaGreatW.PrintWords Go.Proofs.YtbmkbokkmmdjdaaGreatW.PrintLast Go.Proofs.YtbmkbokkmmdjdaaGreatW.PrintMore
open Q Go.Shelf
set_option linter.unusedVariables false
set_option linter.unusedSimpArgs false
theorem loss_ok {ho fi : S23} {l : List S93} (hv : bookErr ho fi l = 0) : ∀ k, k ≤ l.length → ∀ h ∈ (keptOf (l.take k)).hs, 0 ≤ h.f2.f0 ∧ h.f2.f0 ≤ h.f2.f1 ∧ h.f2.f1 ≤ 1000
  | 0, _ => by simp [keptOf]
  | k + 1, hk => by
    have ih := loss_ok hv k (by omega)
    have hp := postOk_of ((bookOk_of hv).post k (by omega))
    rw [show l.getD k z93 = l[k] by simp [List.getD, show k < l.length by omega]] at hp
    rw [kept_take (by omega : k < l.length)]
    generalize l[k] = x at *
    generalize keptOf (l.take k) = s at *
    unfold stepK
    split
    · rename_i h1
      intro h hh
      rcases List.mem_append.1 hh with e | e
      · exact ih h e
      · have he := hp.entry
        unfold entryErr at he
        rw [if_pos h1] at he
        unfold inErr at he
        split at he
        · omega
        · split at he
          · omega
          · simp at e
            subst e
            simp only
            omega
    · split
      · intro h hh
        rcases List.mem_append.1 hh with e | e
        · exact ih h e
        · simp at e
          subst e
          exact ⟨Int.le_refl _, Int.le_refl _, show (0 : Int) ≤ 1000 by decide⟩
      · repeat' split
        all_goals exact ih
theorem loss_all {ho fi : S23} {l : List S93} (hv : bookErr ho fi l = 0) (j : Nat) : 0 ≤ ((keptOf l).hs.getD j z101).f2.f0 ∧ ((keptOf l).hs.getD j z101).f2.f0 ≤ ((keptOf l).hs.getD j z101).f2.f1 ∧ ((keptOf l).hs.getD j z101).f2.f1 ≤ 1000 := by
  have h := loss_ok hv l.length (Nat.le_refl _)
  rw [List.take_length] at h
  by_cases hj : j < (keptOf l).hs.length
  · rw [show (keptOf l).hs.getD j z101 = (keptOf l).hs[j] by simp [List.getD, hj]]
    exact h _ (List.getElem_mem hj)
  · rw [show (keptOf l).hs.getD j z101 = z101 by simp [List.getD, hj]]
    decide
theorem minusS_val {s : S23} (h : -1000000000000 ≤ s.f0 ∧ s.f0 ≤ 1000000000000 ∧ -1000000000000 ≤ s.f1 ∧ s.f1 ≤ 1000000000000) : minusS s = ⟨-s.f1, -s.f0⟩ := by
  unfold minusS
  rw [wrap64_id (by omega) (by omega), wrap64_id (by omega) (by omega)]
theorem glassS_val {s : S23} {h : S101} (hs : 0 ≤ s.f0 ∧ s.f0 ≤ s.f1 ∧ s.f1 ≤ 1000000) (hh : 0 ≤ h.f2.f0 ∧ h.f2.f0 ≤ h.f2.f1 ∧ h.f2.f1 ≤ 1000) : glassS s h = ⟨s.f0 * (1000 - h.f2.f1), s.f1 * (1000 - h.f2.f0)⟩ ∧ 0 ≤ s.f0 * (1000 - h.f2.f1) ∧ s.f0 * (1000 - h.f2.f1) ≤ s.f1 * (1000 - h.f2.f0) ∧ s.f1 * (1000 - h.f2.f0) ≤ 1000000000 := by
  have h1 : 0 ≤ s.f0 * (1000 - h.f2.f1) := Int.mul_nonneg (by omega) (by omega)
  have h2 : s.f0 * (1000 - h.f2.f1) ≤ s.f1 * (1000 - h.f2.f0) := Int.mul_le_mul (by omega) (by omega) (by omega) (by omega)
  have h3 : s.f1 * (1000 - h.f2.f0) ≤ 1000000 * 1000 := Int.mul_le_mul (by omega) (by omega) (by omega) (by omega)
  refine ⟨?_, h1, h2, by omega⟩
  unfold glassS timesS
  simp only
  rw [wrap64_id (n := 1000 - h.f2.f1) (by omega) (by omega), wrap64_id (n := 1000 - h.f2.f0) (by omega) (by omega), wrap64_id (by omega) (by omega), wrap64_id (by omega) (by omega)]
theorem chgX_ok {x : S93} (hx : x.f1 ≤ 5 → 0 ≤ x.f4.f0 ∧ x.f4.f0 ≤ x.f4.f1 ∧ x.f4.f1 ≤ 1000000) (cm : Int) {hs : List S101} (hh : ∀ j, 0 ≤ (hs.getD j z101).f2.f0 ∧ (hs.getD j z101).f2.f0 ≤ (hs.getD j z101).f2.f1 ∧ (hs.getD j z101).f2.f1 ≤ 1000) (a : Int × Int) : Chg (chgX x cm hs a) := by
  have z : Chg z23 := by refine ⟨?_, ?_, ?_⟩ <;> decide
  by_cases h5 : x.f1 ≤ 5
  · have hk := hx h5
    have hg := gramsS_val hk
    have hm := minusS_val (s := gramsS x.f4) (by rw [hg]; simp only; omega)
    have g : Chg (gramsS x.f4) := by rw [hg]; unfold Chg; simp only; omega
    have m : Chg (minusS (gramsS x.f4)) := by rw [hm, hg]; unfold Chg; simp only; omega
    have q : Chg (glassS x.f4 (hs.getD x.f2.toNat z101)) := by
      obtain ⟨e, h1, h2, h3⟩ := glassS_val hk (hh x.f2.toNat)
      rw [e]; unfold Chg; simp only; omega
    unfold chgX
    repeat' split
    all_goals assumption
  · unfold chgX
    rw [if_neg (by omega), if_neg (by omega), if_neg (by omega), if_neg (by omega), if_neg (by omega)]
    exact z
theorem chgL_at {l : List S93} {j : Nat} (hj : j < l.length) (a : Int × Int) : (chgL l a).getD j z23 = chgX l[j] (cnt isHeap (l.take j) : Nat) (keptOf l).hs a := by
  unfold chgL chgK
  simp [List.getD, hj]
theorem chgL_ok {ho fi : S23} {l : List S93} (hv : bookErr ho fi l = 0) (a : Int × Int) (j : Nat) : Chg ((chgL l a).getD j z23) := by
  by_cases hj : j < l.length
  · rw [chgL_at hj]
    have hp := postOk_of ((bookOk_of hv).post j hj)
    rw [show l.getD j z93 = l[j] by simp [List.getD, hj]] at hp
    exact chgX_ok hp.kilos _ (loss_all hv) a
  · rw [show (chgL l a).getD j z23 = z23 by simp [List.getD, chgL_len, hj]]
    refine ⟨?_, ?_, ?_⟩ <;> decide
theorem span_of {s : S23} {m : Int} (h : spanOk s m = true) : 0 ≤ s.f0 ∧ s.f0 ≤ s.f1 ∧ s.f1 ≤ m := by
  simp only [spanOk, betw, Bool.and_eq_true, decide_eq_true_eq] at h
  omega
def fwdRL (ho fi : S23) (l : List S93) (a : Int × Int) : List S23 := fwdR (boundsS ho a.1) (meetS (firstS fi a.1) (boundsS ho a.1)) (chgL l a)
theorem fwdRL_len {ho fi : S23} {l : List S93} (hv : bookErr ho fi l = 0) (a : Int × Int) : (wrongS (forwardL ho fi a.1 (chgL l a)) < 0 ∧ (fwdRL ho fi l a).length = l.length + 1 ∧ fwdRL ho fi l a = forwardL ho fi a.1 (chgL l a)) ∨ (0 ≤ wrongS (forwardL ho fi a.1 (chgL l a)) ∧ ((fwdRL ho fi l a).length : Int) = wrongS (forwardL ho fi a.1 (chgL l a)) ∧ (fwdRL ho fi l a).length ≤ l.length) := by
  have hl := (bookOk_of hv).len
  refine wrong_len (by rw [forwardL_len, chgL_len]) (fw_same a.1 (by rw [chgL_len]; omega) fun x hx => ?_)
  obtain ⟨j, hj, rfl⟩ := List.getElem_of_mem hx
  rw [show (chgL l a)[j] = (chgL l a).getD j z23 by simp [List.getD, hj]]
  exact chgL_ok hv a j
def rStep (ho fi : S23) (l : List S93) (p : Int × Int × Int) (a : Int × Int) : Int × Int × Int :=
  if ((fwdRL ho fi l a).length : Int) - 1 < l.length ∧ mx (((fwdRL ho fi l a).length : Int) - 1) 0 < p.1 then (mx (((fwdRL ho fi l a).length : Int) - 1) 0, a.1, a.2) else p
theorem step_wrong {ho fi : S23} {l : List S93} (hv : bookErr ho fi l = 0) (p : Int × Int × Int) (a : Int × Int) : wStep ho fi l p a = rStep ho fi l p a := by
  unfold wStep rStep
  rcases fwdRL_len hv a with ⟨h1, h2, _⟩ | ⟨h1, h2, h3⟩
  · rw [if_neg (by omega), if_neg (by omega)]
  · have hl := (bookOk_of hv).len
    rw [← h2]
    rw [wrap64_id (by omega) (by omega)]
    by_cases h : mx (((fwdRL ho fi l a).length : Int) - 1) 0 < p.1
    · rw [if_pos ⟨by omega, h⟩, if_pos ⟨by omega, h⟩]
    · rw [if_neg (fun e => h e.2), if_neg (fun e => h e.2)]
theorem wrong_same {ho fi : S23} {l : List S93} (hv : bookErr ho fi l = 0) : wrongAll ho fi l = (accs (keptOf l).hs.length).foldl (rStep ho fi l) (l.length, 0, 0) := by
  unfold wrongAll
  congr 1
  funext p a
  exact step_wrong hv p a
def wrongR (ho fi : S23) (l : List S93) : Value := if bookErr ho fi l = 0 then .tuple #[.int .i64 ((accs (keptOf l).hs.length).foldl (rStep ho fi l) (l.length, 0, 0)).1, .int .u8 ((accs (keptOf l).hs.length).foldl (rStep ho fi l) (l.length, 0, 0)).2.1, .int .i64 ((accs (keptOf l).hs.length).foldl (rStep ho fi l) (l.length, 0, 0)).2.2, .int .i64 0] else .tuple #[.int .i64 0, .int .u8 0, .int .i64 0, .int .i64 (bookErr ho fi l)]
theorem wrongR_same (ho fi : S23) (l : List S93) : wrongV ho fi l = wrongR ho fi l := by
  unfold wrongV wrongR
  by_cases h : bookErr ho fi l = 0
  · rw [if_pos h, if_pos h, wrong_same h]
  · rw [if_neg h, if_neg h]
def amountR (ho fi : S23) (l : List S93) (k h n : Int) : S23 × Int :=
  if bookErr ho fi l ≠ 0 then (z23, bookErr ho fi l)
  else if 2 < k ∨ n < 0 ∨ (l.length : Int) < n then (z23, 1)
  else if (k = 2 ∧ (h < 0 ∨ ((keptOf l).hs.length : Int) ≤ h)) ∨ (k ≠ 2 ∧ h ≠ 0) then (z23, 7)
  else if (fwdRL ho fi l (k, h)).length ≤ l.length then (z23, 10)
  else (meetS ((fwdRL ho fi l (k, h)).getD n.toNat z23) (backR (boundsS ho k) (chgL l (k, h)) (l.length - n.toNat)), 0)
theorem mem_accs {n : Nat} {k h : Int} (hk : 0 ≤ k ∧ k ≤ 2) : (k, h) ∈ accs n ↔ ¬ ((k = 2 ∧ (h < 0 ∨ (n : Int) ≤ h)) ∨ (k ≠ 2 ∧ h ≠ 0)) := by
  unfold accs
  simp only [List.mem_cons, List.mem_map, List.mem_range, Prod.mk.injEq]
  constructor
  · rintro (⟨rfl, rfl⟩ | ⟨rfl, rfl⟩ | ⟨j, hj, rfl, rfl⟩) <;> omega
  · intro e
    by_cases h2 : k = 2
    · exact Or.inr (Or.inr ⟨h.toNat, by omega, by omega, by omega⟩)
    · omega
theorem amountR_same (ho fi : S23) (l : List S93) (k h n : Int) (hk : 0 ≤ k) : amountV ho fi l k h n = amountR ho fi l k h n := by
  unfold amountV amountR
  by_cases hv : bookErr ho fi l = 0
  rotate_left
  · rw [if_pos hv, if_pos hv]
  have hb : ¬ bookErr ho fi l ≠ 0 := by simpa using hv
  rw [if_neg hb, if_neg hb]
  by_cases h1 : 2 < k ∨ n < 0 ∨ (l.length : Int) < n
  · rw [if_pos h1, if_pos (show 2 < k ∨ betw n 0 l.length = false by unfold betw; simp; omega)]
  rw [if_neg h1, if_neg (show ¬ (2 < k ∨ betw n 0 l.length = false) by unfold betw; simp; omega)]
  by_cases h2 : (k = 2 ∧ (h < 0 ∨ ((keptOf l).hs.length : Int) ≤ h)) ∨ (k ≠ 2 ∧ h ≠ 0)
  · have h3 : (k, h) ∉ accs (keptOf l).hs.length := fun e => (mem_accs ⟨hk, by omega⟩).1 e h2
    rw [if_pos h2, if_pos h3]
  have h3 : ¬ (k, h) ∉ accs (keptOf l).hs.length := fun e => e ((mem_accs ⟨hk, by omega⟩).2 h2)
  rw [if_neg h2, if_neg h3]
  rcases fwdRL_len hv (k, h) with ⟨g1, g2, g3⟩ | ⟨g1, g2, g3⟩
  · have hl := (bookOk_of hv).len
    rw [if_neg (by simp only at g1; omega), if_neg (by omega), g3, amt_same (span_of (bookOk_of hv).hok) (by rw [chgL_len]; omega) (chgL_ok hv (k, h)) g1 (by rw [chgL_len]; omega), chgL_len]
  · rw [if_pos g1, if_pos g3]
end Go.Proofs.YtbmkbokkmmdjdaaGreat
end
section
namespace Go.Proofs.YtbmkbokkmmdjdaaGreat
open Go.RowKit Go.Proofs.YtbmkbokkmmdjdaaGreatW.PrintWords Go.Proofs.YtbmkbokkmmdjdaaGreatW.PrintLast Go.Proofs.YtbmkbokkmmdjdaaGreatW.PrintMore
open Q Go.Shelf
attribute [local go_sem] Oper.semAt_some wide_depth wide_fn
set_option linter.unusedVariables false
set_option linter.unusedSimpArgs false

structure FI (w : World) (ho fi : S23) (A : Option Addr) (c : Nat) (l : List S93) (s : S23) (vo : Value) (out : List S23) (W : World) : Prop where
  bx : W.heap[w.heap.size]? = some (.cells #[.int .i64 ho.f0, .int .i64 ho.f1, .int .i64 fi.f0, .int .i64 fi.f1, .slice A l.length c] 26 (0, 0))
  at_ : W.heap[w.heap.size + 1]? = some (.cells #[.int .i64 s.f0, .int .i64 s.f1] 23 (0, 0))
  row : W.ownsRow (w.heap.size + 1 + 1) 23 2 vo out.length (sF out)
  be : Below w.heap.size w W
theorem row_ne_base {W : World} {b : Nat} {e : TypeId} {z n k : Nat} {v : Value} {xs : List Value} (h : W.ownsRow b e z v n xs) (hk : k < b) : v.ownBlock ≠ some k := fun e => by
  have := (h.lt k e).1
  omega
theorem FI.grow {w W W' : World} {ho fi : S23} {A : Option Addr} {c : Nat} {l : List S93} {s : S23} {vo : Value} {out : List S23} (h : FI w ho fi A c l s vo out W) (hb : Below W.heap.size W W') : FI w ho fi A c l s vo out W' :=
  ⟨heap_grow h.bx hb, heap_grow h.at_ hb, rings_set h.row hb, h.be.trans (hb.mono h.be.size)⟩
theorem FI.put {w W : World} {ho fi : S23} {A : Option Addr} {c : Nat} {l : List S93} {s : S23} {vo : Value} {out : List S23} (h : FI w ho fi A c l s vo out W) (v : S23) : FI w ho fi A c l v vo out ((W.setCell ⟨w.heap.size + 1, 0, none⟩ (.int .i64 v.f0)).setCell ⟨w.heap.size + 1, 1, none⟩ (.int .i64 v.f1)) := by
  have n1 := row_ne_base h.row (show w.heap.size + 1 < w.heap.size + 1 + 1 by omega)
  exact ⟨st2_other (by omega) h.bx _ _, st2_same h.at_ _ _, ownsRow_setCell_other (a := ⟨w.heap.size + 1, 1, none⟩) (ownsRow_setCell_other (a := ⟨w.heap.size + 1, 0, none⟩) h.row n1 _) n1 _, st2_below h.be (by omega) _ _⟩
theorem FI.add {w W W' : World} {ho fi : S23} {A : Option Addr} {c : Nat} {l : List S93} {s : S23} {vo : Value} {out : List S23} {vo' : Value} (h : FI w ho fi A c l s vo out W) (x : S23) (hr : W'.ownsRow (w.heap.size + 1 + 1) 23 2 vo' (out.length + 1) (sF out ++ sC x)) (hg : W.grownBy W' vo.ownBlock) : FI w ho fi A c l s vo' (out ++ [x]) W' := by
  have n1 := row_ne_base h.row (show w.heap.size + 1 < w.heap.size + 1 + 1 by omega)
  have n2 := row_ne_base h.row (show w.heap.size < w.heap.size + 1 + 1 by omega)
  refine ⟨grown_blk hg n2 h.bx, grown_blk hg n1 h.at_, ?_, h.be.grown hg h.be.size (fun j hj => by have := (h.row.lt j hj).1; omega)⟩
  rw [sF_snoc, List.length_append]
  exact hr
def restR (b : S23) (by_ : List S23) (j : Nat) (s : S23) : List S23 := if j ≤ by_.length then fwdR b s (by_.drop j) else []
theorem restR_stop {b s : S23} {by_ : List S23} {j : Nat} (hs : s.f1 < s.f0) : restR b by_ j s = [] := by
  unfold restR
  split
  · cases by_.drop j <;> simp [fwdR, hs]
  · rfl
theorem restR_go {b s : S23} {by_ : List S23} {j : Nat} (hj : j < by_.length) {x : S23} (hx : by_.getD j z23 = x) (hs : ¬ s.f1 < s.f0) : restR b by_ j s = s :: restR b by_ (j + 1) (meetS (plusS s x) b) := by
  unfold restR
  rw [if_pos (by omega), if_pos (by omega), List.drop_eq_getElem_cons hj]
  rw [show by_[j] = x by rw [← hx]; simp [List.getD, hj]]
  exact if_neg hs
theorem restR_last {b s : S23} {by_ : List S23} {j : Nat} (hj : j = by_.length) (hs : ¬ s.f1 < s.f0) (s' : S23) : restR b by_ j s = s :: restR b by_ (j + 1) s' := by
  unfold restR
  subst hj
  rw [if_pos (by omega), if_neg (by omega), List.drop_length]
  exact if_neg hs
set_option maxRecDepth 100000 in
set_option maxHeartbeats 8000000 in
set_option pp.deepTerms true in
set_option pp.maxSteps 1000000 in
theorem forwardR_any (ho fi : S23) (vh : Value) (A : Option Addr) (c : Nat) (l : List S93) (k h : Int) (w : World) (hr : Kd.C k93 w A l.length l) (hc : l.length ≤ c) (hv : bookErr ho fi l = 0)
    (hrh : w.ownsRow 0 101 6 vh (keptOf l).hs.length (hF (keptOf l).hs)) (ha : (k = 0 ∧ h = 0) ∨ (k = 1 ∧ h = 0) ∨ k = 2) :
    Calls Tryz.prog 31 #[.agg #[.int .i64 ho.f0, .int .i64 ho.f1, .int .i64 fi.f0, .int .i64 fi.f1, .slice A l.length c], vh, .int .u8 k, .int .i64 h] w (RetSpans (fwdRL ho fi l (k, h)) w) := by
  have hu1 := Tryz.underlying26
  have hu6 := Tryz.underlying23
  have hu7 := Tryz.underlying62
  have HB := Below.refl w.heap.size w
  have hl := (bookOk_of hv).len
  have HCH0 := hid (fun (W : World) (hb : Below w.heap.size w W) (j : Nat) (hj : j < l.length) => changeR_any (keptOf l).hs vh A c l j k h W (Kd.C_below hr hb) hc (by omega) hj (rings_set hrh hb) (fun x hx => (round_ok hv hj hx).2.2) ha)
  have hbel := hid ((HB.alloc (Nat.le_refl _) (.cells #[.int .i64 ho.f0, .int .i64 ho.f1, .int .i64 fi.f0, .int .i64 fi.f1, .slice A l.length c] 26)).alloc (by simp) (.cells #[.int .i64 0, .int .i64 0] 23))
  have e0 := alloc_old (o' := (.cells #[.int .i64 0, .int .i64 0] 23)) (World.alloc_heap_new w (.cells #[.int .i64 ho.f0, .int .i64 ho.f1, .int .i64 fi.f0, .int .i64 fi.f1, .slice A l.length c] 26))
  have e1 := World.alloc_heap_new (w.alloc (.cells #[.int .i64 ho.f0, .int .i64 ho.f1, .int .i64 fi.f0, .int .i64 fi.f1, .slice A l.length c] 26)) (.cells #[.int .i64 0, .int .i64 0] 23)
  simp only [World.size_alloc] at e1
  have HL := hid hl
  clear hr hrh ha hv HB hl
  go_enter Tryz.func31, Tryz.ntmps31
  go_upto_if 14 with fail
  generalize ((w.alloc (.cells #[.int .i64 ho.f0, .int .i64 ho.f1, .int .i64 fi.f0, .int .i64 fi.f1, .slice A l.length c] 26)).alloc (.cells #[.int .i64 0, .int .i64 0] 23)) = W2 at *
  have HE0 := hid e0
  have HE1 := hid e1
  clear e0 e1
  go_cut [8] from 13 to 17 (fun v8 wc => v8 = .slice none 0 0 ∧ Hid (wc.heap[w.heap.size]? = some (.cells #[.int .i64 ho.f0, .int .i64 ho.f1, .int .i64 fi.f0, .int .i64 fi.f1, .slice A l.length c] 26 (0, 0)) ∧ wc.heap[w.heap.size + 1]? = some (.cells #[.int .i64 (firstS fi k).f0, .int .i64 (firstS fi k).f1] 23 (0, 0)) ∧ Below w.heap.size w wc))
  case first =>
    by_cases hk : k = 0
    · have d1 : (k == 0) = true := by simp [hk]
      have HK := hid hk
      clear hk
      have y2 := blkCell HE0.out 2
      have y3 := blkCell HE0.out 3
      simp at y2 y3
      go_wp2_with fail
      refine (gramsR_any fi W2).mono ?_
      rintro e W3 ⟨rfl, hb⟩
      have hz := st2_same (heap_grow HE1.out hb) (.int .i64 (gramsS fi).f0) (.int .i64 (gramsS fi).f1)
      have hy := st2_other (b := w.heap.size + 1) (by omega) (heap_grow HE0.out hb) (.int .i64 (gramsS fi).f0) (.int .i64 (gramsS fi).f1)
      have hx := st2_below (hbel.out.trans (hb.mono hbel.out.size)) (show w.heap.size ≤ w.heap.size + 1 by omega) (.int .i64 (gramsS fi).f0) (.int .i64 (gramsS fi).f1)
      have HX := hid (And.intro hy (And.intro hz hx))
      have e1 := heap_grow HE1.out hb
      have z0 := blkCell e1 0
      have z1 := blkCell e1 1
      have g0 := blkFrozen e1 0
      have g1 := blkFrozen e1 1
      simp at z0 z1
      clear hb y2 y3 hx hy hz e1
      have hf : firstS fi k = gramsS fi := by unfold firstS; rw [if_pos HK.out]
      rw [← hf] at HX
      rw [← hf]
      clear hf
      go_wp2
      go_meet
      case rel => exact ⟨rfl, HX⟩
    · have d1 : (k == 0) = false := by simp [hk]
      have HX := hid (And.intro HE0.out (And.intro (show W2.heap[w.heap.size + 1]? = some (.cells #[.int .i64 (firstS fi k).f0, .int .i64 (firstS fi k).f1] 23 (0, 0)) by unfold firstS; rw [if_neg hk]; exact HE1.out) hbel.out))
      clear hk
      go_wp2
      go_meet
      case rel => exact ⟨rfl, HX⟩
  case rest =>
  obtain ⟨rfl, HC⟩ := hcut
  clear HE0 HE1 hbel
  clear W2
  rename World => W3
  obtain ⟨f, hf⟩ : ∃ f, firstS fi k = f := ⟨_, rfl⟩
  rw [hf] at HC
  have HFF := hid hf
  clear hf
  go_upto_region 4 with fail
  refine wp_flow [[], [], [], [1, 2], [0, 3, 1, 2], [4, 0, 3, 1, 2]] 5
    (fun V => V.cell? ⟨(w.heap.size + 1), 0, none⟩ = some (.int .i64 f.f0) ∧ V.cell? ⟨(w.heap.size + 1), 1, none⟩ = some (.int .i64 f.f1) ∧ V.cell? ⟨w.heap.size, 0, none⟩ = some (.int .i64 ho.f0) ∧ V.cell? ⟨w.heap.size, 1, none⟩ = some (.int .i64 ho.f1) ∧ V.cell? ⟨w.heap.size, 2, none⟩ = some (.int .i64 fi.f0) ∧ V.cell? ⟨w.heap.size, 3, none⟩ = some (.int .i64 fi.f1) ∧ V.cell? ⟨w.heap.size, 4, none⟩ = some (.slice A l.length c) ∧ Below W3.heap.size W3 V)
    { tmps := #[.agg #[.int .i64 ho.f0, .int .i64 ho.f1, .int .i64 fi.f0, .int .i64 fi.f1, .slice A l.length c], vh, .int .u8 k, .int .i64 h, .pointer (some ⟨w.heap.size, 0, none⟩), undef, undef, undef, .slice none 0 0, .pointer (some ⟨(w.heap.size + 1), 0, none⟩), undef, undef, .agg #[.int .i64 0, .int .i64 0], u13, u14, u15, u16, u17, .agg #[.int .i64 f.f0, .int .i64 f.f1], .agg #[.int .i64 ho.f0, .int .i64 ho.f1, .int .i64 fi.f0, .int .i64 fi.f1, .slice A l.length c], .int .u8 k, .agg #[.int .i64 ((boundsS ho k).f0), .int .i64 ((boundsS ho k).f1)], .agg #[.int .i64 ((meetS f (boundsS ho k)).f0), .int .i64 ((meetS f (boundsS ho k)).f1)], undef, undef, undef, undef, undef, undef, undef, undef, undef, undef, undef, undef, undef, undef, undef, undef, undef, undef, undef, undef, undef, undef, undef, undef, undef, undef, undef, undef, undef, undef, undef, undef, undef, undef, undef, undef], defers := [] }
    mixed (by kernel_rfl) rfl (Ahead.of3 18 23 rfl rfl (by kernel_rfl) rfl rfl) ?_ (AllFlow.ops rfl ?_) rfl ?_
  · exact ⟨blkCell HC.out.2.1 0, blkCell HC.out.2.1 1, blkCell HC.out.1 0, blkCell HC.out.1 1, blkCell HC.out.1 2, blkCell HC.out.1 3, blkCell HC.out.1 4, (Below.refl _ _).drew⟩
  · refine ⟨?_, ?_, ?_, ?_, ?_, trivial⟩
    · exact .val 18 _ rfl rfl fun V ⟨y0, y1, y2, y3, y4, y5, y6, hB_⟩ => by go_simp
    · exact .val 19 _ rfl rfl fun V ⟨y0, y1, y2, y3, y4, y5, y6, hB_⟩ => by go_simp
    · exact .val 20 _ rfl rfl fun V ⟨y0, y1, y2, y3, y4, y5, y6, hB_⟩ => by go_simp
    · refine .call 21 (.agg #[.int .i64 ((boundsS ho k).f0), .int .i64 ((boundsS ho k).f1)]) 35 #[.agg #[.int .i64 ho.f0, .int .i64 ho.f1, .int .i64 fi.f0, .int .i64 fi.f1, .slice A l.length c], .int .u8 k] rfl rfl (fun V ⟨y0, y1, y2, y3, y4, y5, y6, hB_⟩ => by go_simp) fun V ⟨y0, y1, y2, y3, y4, y5, y6, hB_⟩ => ?_
      refine (boundsR_any ho fi A c l k _).mono ?_
      rintro e w' ⟨rfl, hb⟩
      exact ⟨rfl, cell_grow y0 hb, cell_grow y1 hb, cell_grow y2 hb, cell_grow y3 hb, cell_grow y4 hb, cell_grow y5 hb, cell_grow y6 hb, hB_.trans (hb.mono hB_.size)⟩
    · refine .call 22 (.agg #[.int .i64 ((meetS f (boundsS ho k)).f0), .int .i64 ((meetS f (boundsS ho k)).f1)]) 37 #[.agg #[.int .i64 f.f0, .int .i64 f.f1], .agg #[.int .i64 ((boundsS ho k).f0), .int .i64 ((boundsS ho k).f1)]] rfl rfl (fun V ⟨y0, y1, y2, y3, y4, y5, y6, hB_⟩ => by go_simp) fun V ⟨y0, y1, y2, y3, y4, y5, y6, hB_⟩ => ?_
      refine (meetR_any f (boundsS ho k) _).mono ?_
      rintro e w' ⟨rfl, hb⟩
      exact ⟨rfl, cell_grow y0 hb, cell_grow y1 hb, cell_grow y2 hb, cell_grow y3 hb, cell_grow y4 hb, cell_grow y5 hb, cell_grow y6 hb, hB_.trans (hb.mono hB_.size)⟩
  rintro V ⟨y0, y1, y2, y3, y4, y5, y6, hB_⟩
  have hC0 := heap_grow HC.out.1 hB_
  have hC1 := heap_grow HC.out.2.1 hB_
  have hC2 := HC.out.2.2.trans (hB_.mono HC.out.2.2.size)
  have z0 := blkCell hC1 0
  have z1 := blkCell hC1 1
  have g0 := blkFrozen hC1 0
  have g1 := blkFrozen hC1 1
  simp at z0 z1
  have HS0 := hid (FI.put (vo := .slice none 0 0) (out := []) ⟨hC0, hC1, World.ownsRow_nil _ _ _ _, hC2⟩ (meetS f (boundsS ho k)))
  clear hC0 hC1 hC2 hB_ y0 y1 y2 y3 y4 y5 y6
  obtain ⟨s0, hs0⟩ : ∃ s0, meetS f (boundsS ho k) = s0 := ⟨_, rfl⟩
  rw [hs0] at HS0
  rw [hs0]
  have HL0 := hid (show fwdRL ho fi l (k, h) = restR (boundsS ho k) (chgL l (k, h)) 0 s0 by unfold fwdRL restR; rw [if_pos (by omega), HFF.out, hs0]; rfl)
  clear hs0
  go_upto_region 5 with fail
  generalize ((V.setCell ⟨w.heap.size + 1, 0, none⟩ (.int .i64 s0.f0)).setCell ⟨w.heap.size + 1, 1, none⟩ (.int .i64 s0.f1)) = W4 at *
  clear z0 z1 g0 g1 HC HFF
  go_wp2_with fail
  go_loopw [10, 11] (fun v10 v11 X => ∃ j : Nat, j ≤ l.length + 1 ∧ v11 = .int .i64 j ∧ ∃ (out : List S23) (s : S23) (vo : Value), vo = v10 ∧ Hid (FI w ho fi A c l s vo out X ∧ fwdRL ho fi l (k, h) = out ++ restR (boundsS ho k) (chgL l (k, h)) j s ∧ out.length ≤ j)) (fun v10 v11 _ => l.length + 1 - (intOf v11).toNat)
  case atStart => exact ⟨0, by omega, rfl, [], s0, _, rfl, hid ⟨HS0.out, HL0.out, Nat.le_refl _⟩⟩
  case round =>
    obtain ⟨j, hj, rfl, out, s, vo, rfl, HX⟩ := hrel
    rename World => Wk
    have b4 := blkCell HX.out.1.bx 4
    simp at b4
    by_cases hlt : j ≤ l.length
    · have hjl : (j : Int) ≤ (l.length : Int) := by omega
      have HJ := hid hlt
      have z0 := blkCell HX.out.1.at_ 0
      have z1 := blkCell HX.out.1.at_ 1
      simp at z0 z1
      by_cases hs : s.f1 < s.f0
      · have d1 : decide (s.f1 < s.f0) = true := decide_eq_true hs
        have HF := hid (show RetSpans (fwdRL ho fi l (k, h)) w (.returned vo) Wk by
          have h0 := HX.out.2.1
          rw [restR_stop hs, List.append_nil] at h0
          rw [h0]
          exact ⟨_, rfl, own_lower (by omega) HX.out.1.row, HX.out.1.be⟩)
        clear HX hs
        go_wp2
        refine bodyPost_ret (v := vo) (by simp [results, Tryz.results31, go_sem]) rfl HF.out
      · have d1 : decide (s.f1 < s.f0) = false := decide_eq_false hs
        have HS := hid hs
        clear hs
        go_wp2_with (at_builtin; refine Hid.out ?_)
        refine hid ?_
        have hgr := (Below.refl Wk.heap.size Wk).alloc (Nat.le_refl _) (.cells #[.int .i64 s.f0, .int .i64 s.f1] 23)
        have hnew := World.alloc_heap_new Wk (.cells #[.int .i64 s.f0, .int .i64 s.f1] 23)
        have hK7 := HX.out.1.grow hgr
        have hs7 : w.heap.size + 1 + 1 ≤ (Wk.alloc (.cells #[.int .i64 s.f0, .int .i64 s.f1] 23)).heap.size := by have := cell_lt (blkCell hK7.at_ 0); omega
        generalize Wk.alloc (.cells #[.int .i64 s.f0, .int .i64 s.f1] 23) = W7 at *
        generalize Wk.heap.size = B6 at *
        obtain ⟨i0, hi, hz0, hz1, hz2⟩ := info23'
        refine wpList_append_own W7 rfl _ _ 62 rfl (w.heap.size + 1 + 1) 23 i0 _ 2 16 Tryz.underlying62 hi hz0 hz1 hz2 rfl (by decide) vo out.length (sF out) rfl hK7.row ⟨B6, 0, none⟩ 1 1 (sC s) rfl rfl (row_cells hnew) (by simp [sC, Value.oneCell']) (by have := HX.out.2.2; have := HL.out; unfold maxLen; omega) (by have := HX.out.2.2; have := HL.out; omega) hs7 ?_
        intro v' W8 hown' hgrow _
        have HF0 := hid (hK7.add s hown' hgrow)
        have HLE := hid HX.out.2
        clear hgr hnew hK7 hs7 hi hz0 hz1 hz2 hown' hgrow HX z0 z1 b4
        by_cases hjn : j < l.length
        · have hjd : (j : Int) < (l.length : Int) := by omega
          have b4 := blkCell HF0.out.bx 4
          simp at b4
          go_upto_region 13 with fail
          generalize W8 = W9 at *
          have HF := HF0
          clear HF0 b4
          obtain ⟨cj, hcj⟩ : ∃ cj, (chgL l (k, h)).getD j z23 = cj := ⟨_, rfl⟩
          have HCH := hid (fun (V : World) (hb : Below W9.heap.size W9 V) => by
            have := HCH0.out V (HF.out.be.trans (hb.mono HF.out.be.size)) j hjn
            rw [← chgL_at hjn, hcj] at this
            exact this)
          have HLN := hid (show fwdRL ho fi l (k, h) = (out ++ [s]) ++ restR (boundsS ho k) (chgL l (k, h)) (j + 1) (meetS (plusS s cj) (boundsS ho k)) by
            rw [HLE.out.1, restR_go (by rw [chgL_len]; exact hjn) hcj (by have := HS.out; omega), List.append_assoc]; rfl)
          clear hcj
          refine wp_flow [[], [], [], [2], [], [], [], [1, 3, 2, 4, 5, 6], [0, 7, 1, 3, 2, 4, 5, 6], [], [], [9, 10, 8, 0, 7, 1, 3, 2, 4, 5, 6], [8, 0, 7, 1, 3, 2, 4, 5, 6, 11, 9, 10], [12, 8, 0, 7, 1, 3, 2, 4, 5, 6, 11, 9, 10]] 13
            (fun V => V.cell? ⟨(w.heap.size + 1), 0, none⟩ = some (.int .i64 s.f0) ∧ V.cell? ⟨(w.heap.size + 1), 1, none⟩ = some (.int .i64 s.f1) ∧ V.cell? ⟨w.heap.size, 0, none⟩ = some (.int .i64 ho.f0) ∧ V.cell? ⟨w.heap.size, 1, none⟩ = some (.int .i64 ho.f1) ∧ V.cell? ⟨w.heap.size, 2, none⟩ = some (.int .i64 fi.f0) ∧ V.cell? ⟨w.heap.size, 3, none⟩ = some (.int .i64 fi.f1) ∧ V.cell? ⟨w.heap.size, 4, none⟩ = some (.slice A l.length c) ∧ Below W9.heap.size W9 V)
            { tmps := #[.agg #[.int .i64 ho.f0, .int .i64 ho.f1, .int .i64 fi.f0, .int .i64 fi.f1, .slice A l.length c], vh, .int .u8 k, .int .i64 h, .pointer (some ⟨w.heap.size, 0, none⟩), undef, undef, undef, u8, .pointer (some ⟨(w.heap.size + 1), 0, none⟩), v', .int .i64 ((j : Int)), .agg #[.int .i64 0, .int .i64 0], u13, u14, u15, u16, u17, .agg #[.int .i64 f.f0, .int .i64 f.f1], .agg #[.int .i64 ho.f0, .int .i64 ho.f1, .int .i64 fi.f0, .int .i64 fi.f1, .slice A l.length c], .int .u8 k, .agg #[.int .i64 (boundsS ho k).f0, .int .i64 (boundsS ho k).f1], .agg #[.int .i64 s0.f0, .int .i64 s0.f1], .int .i64 j, .pointer (some ⟨w.heap.size, 4, none⟩), .slice A l.length c, .int .i64 l.length, .bool true, u28, u29, .pointer (some ⟨w.heap.size + 1, 0, none⟩), .int .i64 s.f0, .pointer (some ⟨w.heap.size + 1, 1, none⟩), .int .i64 s.f1, .bool false, u35, vo, .agg #[.int .i64 s.f0, .int .i64 s.f1], .slice (some ⟨B6, 0, none⟩) 1 1, v', .int .i64 j, .pointer (some ⟨w.heap.size, 4, none⟩), .slice A l.length c, .int .i64 l.length, .bool true, .agg #[.int .i64 s.f0, .int .i64 s.f1], vh, .pointer (some ⟨w.heap.size, 4, none⟩), .slice A l.length c, .int .i64 ((j : Int)), .int .u8 k, .int .i64 h, .agg #[.int .i64 cj.f0, .int .i64 cj.f1], .agg #[.int .i64 ((plusS s cj).f0), .int .i64 ((plusS s cj).f1)], .agg #[.int .i64 ho.f0, .int .i64 ho.f1, .int .i64 fi.f0, .int .i64 fi.f1, .slice A l.length c], .int .u8 k, .agg #[.int .i64 ((boundsS ho k).f0), .int .i64 ((boundsS ho k).f1)], .agg #[.int .i64 ((meetS (plusS s cj) (boundsS ho k)).f0), .int .i64 ((meetS (plusS s cj) (boundsS ho k)).f1)], undef], defers := [] }
            mixed (by kernel_rfl) rfl (Ahead.of3 45 58 rfl rfl (by kernel_rfl) rfl rfl) ?_ (AllFlow.ops rfl ?_) rfl ?_
          · exact ⟨blkCell HF.out.at_ 0, blkCell HF.out.at_ 1, blkCell HF.out.bx 0, blkCell HF.out.bx 1, blkCell HF.out.bx 2, blkCell HF.out.bx 3, blkCell HF.out.bx 4, (Below.refl _ _).drew⟩
          · refine ⟨?_, ?_, ?_, ?_, ?_, ?_, ?_, ?_, ?_, ?_, ?_, ?_, ?_, trivial⟩
            · exact .val 45 _ rfl rfl fun V ⟨y0, y1, y2, y3, y4, y5, y6, hB_⟩ => by go_simp
            · exact .val 46 _ rfl rfl fun V ⟨y0, y1, y2, y3, y4, y5, y6, hB_⟩ => by go_simp
            · exact .val 47 _ rfl rfl fun V ⟨y0, y1, y2, y3, y4, y5, y6, hB_⟩ => by go_simp
            · exact .val 48 _ rfl rfl fun V ⟨y0, y1, y2, y3, y4, y5, y6, hB_⟩ => by go_simp
            · exact .val 49 _ rfl rfl fun V ⟨y0, y1, y2, y3, y4, y5, y6, hB_⟩ => by go_simp
            · exact .val 50 _ rfl rfl fun V ⟨y0, y1, y2, y3, y4, y5, y6, hB_⟩ => by go_simp
            · exact .val 51 _ rfl rfl fun V ⟨y0, y1, y2, y3, y4, y5, y6, hB_⟩ => by go_simp
            · refine .call 52 (.agg #[.int .i64 cj.f0, .int .i64 cj.f1]) 36 #[vh, .slice A l.length c, .int .i64 ((j : Int)), .int .u8 k, .int .i64 h] rfl rfl (fun V ⟨y0, y1, y2, y3, y4, y5, y6, hB_⟩ => by go_simp) fun V ⟨y0, y1, y2, y3, y4, y5, y6, hB_⟩ => ?_
              refine (HCH.out _ hB_).mono ?_
              rintro e w' ⟨rfl, hb⟩
              exact ⟨rfl, cell_grow y0 hb, cell_grow y1 hb, cell_grow y2 hb, cell_grow y3 hb, cell_grow y4 hb, cell_grow y5 hb, cell_grow y6 hb, hB_.trans (hb.mono hB_.size)⟩
            · refine .call 53 (.agg #[.int .i64 ((plusS s cj).f0), .int .i64 ((plusS s cj).f1)]) 68 #[.agg #[.int .i64 s.f0, .int .i64 s.f1], .agg #[.int .i64 cj.f0, .int .i64 cj.f1]] rfl rfl (fun V ⟨y0, y1, y2, y3, y4, y5, y6, hB_⟩ => by go_simp) fun V ⟨y0, y1, y2, y3, y4, y5, y6, hB_⟩ => ?_
              refine (plusR_any s cj _).mono ?_
              rintro e w' ⟨rfl, hb⟩
              exact ⟨rfl, cell_grow y0 hb, cell_grow y1 hb, cell_grow y2 hb, cell_grow y3 hb, cell_grow y4 hb, cell_grow y5 hb, cell_grow y6 hb, hB_.trans (hb.mono hB_.size)⟩
            · exact .val 54 _ rfl rfl fun V ⟨y0, y1, y2, y3, y4, y5, y6, hB_⟩ => by go_simp
            · exact .val 55 _ rfl rfl fun V ⟨y0, y1, y2, y3, y4, y5, y6, hB_⟩ => by go_simp
            · refine .call 56 (.agg #[.int .i64 ((boundsS ho k).f0), .int .i64 ((boundsS ho k).f1)]) 35 #[.agg #[.int .i64 ho.f0, .int .i64 ho.f1, .int .i64 fi.f0, .int .i64 fi.f1, .slice A l.length c], .int .u8 k] rfl rfl (fun V ⟨y0, y1, y2, y3, y4, y5, y6, hB_⟩ => by go_simp) fun V ⟨y0, y1, y2, y3, y4, y5, y6, hB_⟩ => ?_
              refine (boundsR_any ho fi A c l k _).mono ?_
              rintro e w' ⟨rfl, hb⟩
              exact ⟨rfl, cell_grow y0 hb, cell_grow y1 hb, cell_grow y2 hb, cell_grow y3 hb, cell_grow y4 hb, cell_grow y5 hb, cell_grow y6 hb, hB_.trans (hb.mono hB_.size)⟩
            · refine .call 57 (.agg #[.int .i64 ((meetS (plusS s cj) (boundsS ho k)).f0), .int .i64 ((meetS (plusS s cj) (boundsS ho k)).f1)]) 37 #[.agg #[.int .i64 ((plusS s cj).f0), .int .i64 ((plusS s cj).f1)], .agg #[.int .i64 ((boundsS ho k).f0), .int .i64 ((boundsS ho k).f1)]] rfl rfl (fun V ⟨y0, y1, y2, y3, y4, y5, y6, hB_⟩ => by go_simp) fun V ⟨y0, y1, y2, y3, y4, y5, y6, hB_⟩ => ?_
              refine (meetR_any (plusS s cj) (boundsS ho k) _).mono ?_
              rintro e w' ⟨rfl, hb⟩
              exact ⟨rfl, cell_grow y0 hb, cell_grow y1 hb, cell_grow y2 hb, cell_grow y3 hb, cell_grow y4 hb, cell_grow y5 hb, cell_grow y6 hb, hB_.trans (hb.mono hB_.size)⟩
          rintro V ⟨y0, y1, y2, y3, y4, y5, y6, hB_⟩
          have hK9 := HF.out.grow hB_
          have z0 := blkCell hK9.at_ 0
          have z1 := blkCell hK9.at_ 1
          have g0 := blkFrozen hK9.at_ 0
          have g1 := blkFrozen hK9.at_ 1
          simp at z0 z1
          have HS1 := hid (hK9.put (meetS (plusS s cj) (boundsS ho k)))
          clear hB_ hK9 y0 y1 y2 y3 y4 y5 y6
          obtain ⟨s1, hs1⟩ : ∃ s1, meetS (plusS s cj) (boundsS ho k) = s1 := ⟨_, rfl⟩
          rw [hs1] at HS1 HLN
          rw [hs1]
          clear hs1
          have hl2 := HL.out
          have hj2 := HJ.out
          go_wp2
          go_roundw
          case rel => exact ⟨j + 1, by have := HJ.out; omega, by go_num, out ++ [s], s1, _, rfl, hid ⟨HS1.out, HLN.out, by have := HLE.out.2; simp; omega⟩⟩
          case measure => have := HJ.out; simp [intOf]; omega
        · have hjd : ¬ (j : Int) < (l.length : Int) := by omega
          have hje : decide ((j : Int) < (l.length : Int)) = false := decide_eq_false hjd
          have b4 := blkCell HF0.out.bx 4
          simp at b4
          have HLN := hid (show fwdRL ho fi l (k, h) = (out ++ [s]) ++ restR (boundsS ho k) (chgL l (k, h)) (j + 1) s by
            rw [HLE.out.1, restR_last (by rw [chgL_len]; have := HJ.out; omega) (by have := HS.out; omega) s, List.append_assoc]; rfl)
          have hl2 := HL.out
          have hj2 := HJ.out
          go_wp2
          go_roundw
          case rel => exact ⟨j + 1, by have := HJ.out; omega, by go_num, out ++ [s], s, _, rfl, hid ⟨HF0.out, HLN.out, by have := HLE.out.2; simp; omega⟩⟩
          case measure => have := HJ.out; simp [intOf]; omega
    · obtain rfl : j = l.length + 1 := by omega
      have HF := hid (show RetSpans (fwdRL ho fi l (k, h)) w (.returned vo) Wk by
        have h0 := HX.out.2.1
        rw [show restR (boundsS ho k) (chgL l (k, h)) (l.length + 1) s = [] by unfold restR; rw [if_neg (by rw [chgL_len]; omega)], List.append_nil] at h0
        rw [h0]
        exact ⟨_, rfl, own_lower (by omega) HX.out.1.row, HX.out.1.be⟩)
      clear HX
      have hjd : ¬ ((l.length + 1 : Nat) : Int) ≤ (l.length : Int) := by omega
      go_wp2
      refine bodyPost_ret (v := vo) (by simp [results, Tryz.results31, go_sem]) rfl HF.out
end Go.Proofs.YtbmkbokkmmdjdaaGreat
end
section
namespace Go.Proofs.YtbmkbokkmmdjdaaGreat
open Go.RowKit Go.Proofs.YtbmkbokkmmdjdaaGreatW.PrintWords Go.Proofs.YtbmkbokkmmdjdaaGreatW.PrintLast Go.Proofs.YtbmkbokkmmdjdaaGreatW.PrintMore
open Q Go.Shelf
attribute [local go_sem] Oper.semAt_some wide_depth wide_fn
set_option linter.unusedVariables false
set_option linter.unusedSimpArgs false

theorem wrap8_in {n : Int} (h : 0 ≤ n ∧ n < 256) : IntKind.u8.wrap n = n := by
  have : n % 256 = n := Int.emod_eq_of_lt h.1 h.2
  first | exact this | (unfold IntKind.wrap; simp; omega)
theorem rStep_eq (ho fi : S23) (l : List S93) (p : Int × Int × Int) (a : Int × Int) : rStep ho fi l p a = if ((fwdRL ho fi l a).length : Int) - 1 < l.length ∧ mx (((fwdRL ho fi l a).length : Int) - 1) 0 < p.1 then (mx (((fwdRL ho fi l a).length : Int) - 1) 0, a.1, a.2) else p := rfl
theorem accs_at {n i : Nat} (h : i < 2 + n) (hi : i < (accs n).length) : (accs n)[i] = (mn (i : Int) 2, mx ((i : Int) - 2) 0) := by
  match i, h, hi with
  | 0, _, _ => rfl
  | 1, _, _ => rfl
  | k + 2, h, hi =>
    have h1 : mn ((k + 2 : Nat) : Int) 2 = 2 := by unfold mn; split <;> omega
    have h2 : mx (((k + 2 : Nat) : Int) - 2) 0 = (k : Int) := by unfold mx; split <;> omega
    rw [h1, h2]
    have hk : k < n := by omega
    show ((List.range n).map (fun j : Nat => ((2 : Int), (j : Int))))[k]'(by simpa using hk) = (2, (k : Int))
    simp
set_option maxRecDepth 100000 in
set_option maxHeartbeats 8000000 in
set_option pp.deepTerms true in
set_option pp.maxSteps 1000000 in
theorem WrongR_any (ho fi : S23) (A : Option Addr) (c : Nat) (l : List S93) (w : World) (hr : Kd.C k93 w A l.length l) (hc : l.length ≤ c) :
    Calls Tryz.prog 9 #[.agg #[.int .i64 ho.f0, .int .i64 ho.f1, .int .i64 fi.f0, .int .i64 fi.f1, .slice A l.length c]] w fun e w' => e = .returned (wrongR ho fi l) ∧ Below w.heap.size w w' := by
  have hu1 := Tryz.underlying26
  have HB := Below.refl w.heap.size w
  have hbel := hid (HB.alloc (Nat.le_refl _) (.cells #[.int .i64 ho.f0, .int .i64 ho.f1, .int .i64 fi.f0, .int .i64 fi.f1, .slice A l.length c] 26))
  have e0 := World.alloc_heap_new w (.cells #[.int .i64 ho.f0, .int .i64 ho.f1, .int .i64 fi.f0, .int .i64 fi.f1, .slice A l.length c] 26)
  go_enter Tryz.func9, Tryz.ntmps9
  go_wp2_with fail
  generalize w.alloc (.cells #[.int .i64 ho.f0, .int .i64 ho.f1, .int .i64 fi.f0, .int .i64 fi.f1, .slice A l.length c] 26) = W1 at *
  refine (checkR_any ho fi A c l _ (Kd.C_below hr hbel.out) hc).mono ?_
  rintro e W2 ⟨rfl, hb⟩
  have e0 := heap_grow e0 hb
  have HB2 := hid (hbel.out.trans (hb.mono hbel.out.size))
  have y0 := blkCell e0 0
  have y1 := blkCell e0 1
  have y2 := blkCell e0 2
  have y3 := blkCell e0 3
  have y4 := blkCell e0 4
  simp at y0 y1 y2 y3 y4
  clear hb hbel HB
  by_cases h1 : bookErr ho fi l = 0
  rotate_left
  · have HE := hid (show wrongR ho fi l = .tuple #[.int .i64 0, .int .u8 0, .int .i64 0, .int .i64 (bookErr ho fi l)] by unfold wrongR; rw [if_neg h1])
    obtain ⟨er, her⟩ : ∃ er, bookErr ho fi l = er := ⟨_, rfl⟩
    rw [her] at h1 HE
    rw [her]
    have d0 : (er != 0) = true := by simpa using h1
    clear her h1
    go_wp2
    refine bodyPost_ret (v := .tuple #[.int .i64 0, .int .u8 0, .int .i64 0, .int .i64 er]) (by simp [results, Tryz.results9, go_sem]) rfl ⟨by rw [HE.out], HB2.out⟩
  have HV := hid h1
  have HL := hid (bookOk_of h1).len
  have d1 : (bookErr ho fi l != 0) = false := by simpa using h1
  clear h1
  go_wp2_with fail
  refine (periodsR_any ho fi A c l _ (Kd.C_below hr HB2.out) hc HV.out).mono ?_
  rintro e W4 ⟨vp, vh, rfl, hrp, hrh, hb⟩
  obtain ⟨Ah, ch, rfl⟩ := own_slice hrh
  obtain ⟨Ap, cp, rfl⟩ := own_slice hrp
  have HB4 := hid (HB2.out.trans (hb.mono HB2.out.size))
  have HRH := hid (own_lower (Nat.zero_le _) hrh)
  have HE4 := hid (heap_grow e0 hb)
  have HN := hid (show (keptOf l).hs.length ≤ 256 by have := kept_len l l.length (Nat.le_refl _); rw [List.take_length] at this; have := HL.out; omega)
  have HB5 := hid (Below.refl W4.heap.size W4)
  have HAL := hid (accs_len (keptOf l).hs.length)
  have HR := hid hr
  clear y0 y1 y2 y3 y4 e0 hb hrh hrp HB2 d1 hr
  obtain ⟨nh, hnh⟩ : ∃ nh, (keptOf l).hs.length = nh := ⟨_, rfl⟩
  rw [hnh] at HRH HN HAL
  rw [hnh]
  have HWA := hid (show wrongR ho fi l = .tuple #[.int .i64 (((accs nh).take (2 + nh)).foldl (rStep ho fi l) (l.length, 0, 0)).1, .int .u8 (((accs nh).take (2 + nh)).foldl (rStep ho fi l) (l.length, 0, 0)).2.1, .int .i64 (((accs nh).take (2 + nh)).foldl (rStep ho fi l) (l.length, 0, 0)).2.2, .int .i64 0] by
    rw [← HAL.out, List.take_length]; unfold wrongR; rw [if_pos HV.out, hnh])
  have HWK := hid (show ∀ k (hk : k < 2 + nh), ((accs nh).take (k + 1)).foldl (rStep ho fi l) (l.length, 0, 0) = rStep ho fi l (((accs nh).take k).foldl (rStep ho fi l) (l.length, 0, 0)) (mn (k : Int) 2, mx ((k : Int) - 2) 0) by
    intro k hk
    rw [List.take_succ_eq_append_getElem (by rw [HAL.out]; exact hk), List.foldl_append, accs_at hk (by rw [HAL.out]; exact hk)]
    rfl)
  have HKL := hid hnh
  clear hnh
  have hwn : wrap64 (2 + (nh : Int)) = 2 + (nh : Int) := wrap64_id (by omega) (by have := HN.out; omega)
  have y4 := blkCell HE4.out 4
  simp at y4
  go_wp2_with fail
  clear y4
  go_loopw [9, 10, 11, 12] (fun v9 v10 v11 v12 X => ∃ i : Nat, i ≤ 2 + nh ∧ v12 = .int .i64 i ∧ ∃ p : Int × Int × Int, v9 = .int .i64 p.1 ∧ v10 = .int .u8 p.2.1 ∧ v11 = .int .i64 p.2.2 ∧ Hid (p = ((accs nh).take i).foldl (rStep ho fi l) (l.length, 0, 0) ∧ Below W4.heap.size W4 X)) (fun v9 v10 v11 v12 _ => 2 + nh - (intOf v12).toNat)
  case atStart => exact ⟨0, by omega, rfl, ((l.length : Int), 0, 0), rfl, rfl, rfl, hid ⟨rfl, HB5.out⟩⟩
  case round =>
    obtain ⟨i, hi, rfl, p, rfl, rfl, rfl, HX⟩ := hrel
    rename World => Wk
    by_cases hlt : i < 2 + nh
    · have hil : (i : Int) < 2 + (nh : Int) := by omega
      obtain ⟨a, hka⟩ : ∃ a : Int × Int, (mn (i : Int) 2, mx ((i : Int) - 2) 0) = a := ⟨_, rfl⟩
      have hwk := HWK.out i hlt
      rw [← HX.out.1, hka] at hwk
      have HWk := hid hwk
      have HKA := hid hka
      have HAV := hid (show (a.1 = 0 ∧ a.2 = 0) ∨ (a.1 = 1 ∧ a.2 = 0) ∨ a.1 = 2 by
        rw [← hka]
        simp only [mn, mx]
        have : i = 0 ∨ i = 1 ∨ 2 ≤ i := by omega
        rcases this with rfl | rfl | h2
        · left; decide
        · right; left; decide
        · right; right; split <;> omega)
      clear hwk hka
      have hd2 : decide ((i : Int) < 2 + (nh : Int)) = true := decide_eq_true hil
      go_upto_region 9 with fail
      go_cut [13, 14] from 36 to 41 (fun v13 v14 wc => v13 = .int .u8 a.1 ∧ v14 = .int .i64 a.2 ∧ Hid (Below Wk.heap.size Wk wc))
      case first =>
        have h1 : a.1 = mn (i : Int) 2 := by rw [← HKA.out]
        have h2 : a.2 = mx ((i : Int) - 2) 0 := by rw [← HKA.out]
        have hb1 : IntKind.u8.wrap (if 2 < (i : Int) then 2 else (i : Int)) = a.1 := by
          rw [h1]; unfold mn
          exact wrap8_in (by split <;> omega)
        have hb2 : wrap64 ((i : Int) - 2) = (i : Int) - 2 := wrap64_id (by omega) (by have := HN.out; omega)
        have hb3 : (if (i : Int) - 2 < 0 then 0 else (i : Int) - 2) = a.2 := by rw [h2]; rfl
        clear h1 h2 hwn
        go_wp2
        all_goals
          go_meet
          case rel => exact ⟨rfl, rfl, hid (Below.refl _ _)⟩
      case rest =>
      obtain ⟨rfl, rfl, hcb⟩ := hcut
      have HB6a := hid (HX.out.2.trans (hcb.out.mono HX.out.2.size))
      have HP := hid HX.out.1
      clear HX hcb HKA
      clear Wk
      rename World => Wk
      have he := heap_grow HE4.out HB6a.out
      have y0 := blkCell he 0
      have y1 := blkCell he 1
      have y2 := blkCell he 2
      have y3 := blkCell he 3
      have y4 := blkCell he 4
      simp at y0 y1 y2 y3 y4
      have hfw := forwardR_any ho fi (.slice Ah nh ch) A c l a.1 a.2 Wk (Kd.C_below HR.out (HB4.out.trans (HB6a.out.mono HB4.out.size))) hc HV.out (by rw [HKL.out]; exact rings_set HRH.out HB6a.out) HAV.out
      have HFW := hid hfw
      clear hfw
      go_wp2_with fail
      refine HFW.out.mono ?_
      rintro e W6 ⟨vf, rfl, hof, hb⟩
      have HFI := hid (fwdRL_len HV.out a)
      have hst := HWk.out
      rw [rStep_eq] at hst
      have hfe : fwdRL ho fi l (a.1, a.2) = fwdRL ho fi l a := rfl
      rw [hfe] at hof
      obtain ⟨nf, hnf⟩ : ∃ nf, (fwdRL ho fi l a).length = nf := ⟨_, rfl⟩
      rw [hnf] at hof HFI hst
      obtain ⟨Af, cf, rfl⟩ := own_slice hof
      have HB6 := hid (HB6a.out.trans (hb.mono HB6a.out.size))
      have he := heap_grow he hb
      have HNF := hid (show nf ≤ l.length + 1 by rcases HFI.out with h | h <;> omega)
      clear y0 y1 y2 y3 y4
      have y4 := blkCell he 4
      simp at y4
      have hLL := HL.out
      have hN2 := HN.out
      have hnw : wrap64 ((nf : Int) - 1) = (nf : Int) - 1 := wrap64_id (by omega) (by have := HNF.out; omega)
      obtain ⟨N, hNN⟩ : ∃ N, (nf : Int) - 1 = N := ⟨_, rfl⟩
      rw [hNN] at hst
      have hnw2 : wrap64 ((nf : Int) - 1) = N := by rw [hnw, hNN]
      clear hnw
      have HST := hid hst
      have HNN := hid hNN
      clear hb hof HFI hst hfe hnf HFW HB6a HWk he hNN
      by_cases h1 : N < (l.length : Int)
      · have d1 : decide (N < (l.length : Int)) = true := decide_eq_true h1
        by_cases h2 : mx N 0 < p.1
        · have d2 : decide ((if N < 0 then 0 else N) < p.1) = true := decide_eq_true h2
          have HW2 := hid (show ((accs nh).take (i + 1)).foldl (rStep ho fi l) (l.length, 0, 0) = ((if N < 0 then 0 else N), a.1, a.2) by rw [HST.out, if_pos ⟨h1, h2⟩]; rfl)
          clear h1 h2 HST
          go_wp2
          go_roundw
          case rel => exact ⟨i + 1, by omega, by go_num, ((if N < 0 then 0 else N), a.1, a.2), rfl, rfl, rfl, hid ⟨HW2.out.symm, HB6.out⟩⟩
          case measure => simp [intOf]; omega
        · have d2 : decide ((if N < 0 then 0 else N) < p.1) = false := decide_eq_false h2
          have HW2 := hid (show ((accs nh).take (i + 1)).foldl (rStep ho fi l) (l.length, 0, 0) = p by rw [HST.out, if_neg (fun h => h2 h.2)])
          clear h1 h2 HST
          go_wp2
          go_roundw
          case rel => exact ⟨i + 1, by omega, by go_num, p, rfl, rfl, rfl, hid ⟨HW2.out.symm, HB6.out⟩⟩
          case measure => simp [intOf]; omega
      · have d1 : decide (N < (l.length : Int)) = false := decide_eq_false h1
        have HW2 := hid (show ((accs nh).take (i + 1)).foldl (rStep ho fi l) (l.length, 0, 0) = p by rw [HST.out, if_neg (fun h => h1 h.1)])
        clear h1 HST
        go_wp2
        go_roundw
        case rel => exact ⟨i + 1, by omega, by go_num, p, rfl, rfl, rfl, hid ⟨HW2.out.symm, HB6.out⟩⟩
        case measure => simp [intOf]; omega
    · obtain rfl : i = 2 + nh := by omega
      have HE := hid (show wrongR ho fi l = .tuple #[.int .i64 p.1, .int .u8 p.2.1, .int .i64 p.2.2, .int .i64 0] by rw [HWA.out, ← HX.out.1])
      have HE2 := hid (HB4.out.trans (HX.out.2.mono HB4.out.size))
      have hil : ¬ ((2 + nh : Nat) : Int) < 2 + (nh : Int) := by omega
      clear HX
      go_wp2
      refine bodyPost_ret (v := .tuple #[.int .i64 p.1, .int .u8 p.2.1, .int .i64 p.2.2, .int .i64 0]) (by simp [results, Tryz.results9, go_sem]) rfl ⟨by rw [HE.out], HE2.out⟩
end Go.Proofs.YtbmkbokkmmdjdaaGreat
end
