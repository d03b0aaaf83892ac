-- PV H1 RQ H2 H3 (wip/pack9.py)
import Derived.TacticsInMore
import Derived.OwnWalkIn
import Derived.LoopNIn
import Derived.LoopIn
import Derived.WalkSmall
import Derived.Test.YtbmkbokkmmdjdaaV10
import Derived.Test.YtbmkbokkmmdjdaaV12
import Derived.Test.YtbmkbokkmmdjdaaV4
import Derived.Test.YtbmkbokkmmdjdaaV8
section
namespace Go.Proofs.Ytbmkbokkmmdjdaa
open Go.RowKit Go.Proofs.YtbmkbokkmmdjdaaW.PrintWords Go.Proofs.YtbmkbokkmmdjdaaW.PrintLast Go.Proofs.YtbmkbokkmmdjdaaW.PrintMore
open Q Go.Shelf
set_option linter.unusedVariables false
set_option linter.unusedSimpArgs false
theorem firstErr_zero {l : List S36} : ∀ (d i : Nat), firstErr l d i = 0 → ∀ j, i ≤ j → j < i + d → postErr l j = 0
  | 0, i, _, j, h1, h2 => absurd h2 (by omega)
  | d + 1, i, h, j, h1, h2 => by
    unfold firstErr at h
    by_cases h0 : postErr l i = 0
    · rw [if_pos h0] at h
      by_cases e : j = i
      · subst e; exact h0
      · exact firstErr_zero d (i + 1) h j (by omega) (by omega)
    · rw [if_neg h0] at h; exact absurd h h0
structure BookOk (ho fi : S23) (l : List S36) : Prop where
  hok : spanOk ho 1000000 = true
  fok : spanOk fi 1000000 = true
  meets : ho.f0 ≤ fi.f1 ∧ fi.f0 ≤ ho.f1
  len : l.length ≤ 256
  post : ∀ k, k < l.length → postErr l k = 0
theorem bookOk_of {ho fi : S23} {l : List S36} (h : bookErr ho fi l = 0) : BookOk ho fi l := by
  unfold bookErr at h
  cases h1 : spanOk ho 1000000 with
  | false => rw [h1] at h; simp at h
  | true =>
  cases h2 : spanOk fi 1000000 with
  | false => rw [h1, h2] at h; simp at h
  | true =>
  rw [h1, h2, if_neg (by decide)] at h
  by_cases h3 : fi.f1 < ho.f0 ∨ ho.f1 < fi.f0
  · rw [if_pos h3] at h; omega
  rw [if_neg h3] at h
  by_cases h4 : 256 < l.length
  · rw [if_pos h4] at h; omega
  rw [if_neg h4] at h
  exact ⟨h1, h2, by omega, by omega, fun k hk => firstErr_zero _ _ h k (by omega) (by omega)⟩
structure PostOk (l : List S36) (k : Nat) (x : S36) : Prop where
  kind : 1 ≤ x.f1 ∧ x.f1 ≤ 8
  time : 0 ≤ x.f0 ∧ x.f0 ≤ 1000000000
  late : lateB l k = false
  kilos : x.f1 ≤ 5 → 0 ≤ x.f4.f0 ∧ x.f4.f0 ≤ x.f4.f1 ∧ x.f4.f1 ≤ 1000000
  entry : entryErr x (l.take k) = 0
  bare : neB (bareOf x) x = false
theorem postOk_of {l : List S36} {k : Nat} (h : postErr l k = 0) : PostOk l k (l.getD k z36) := by
  unfold postErr at h
  generalize l.getD k z36 = x at *
  by_cases hk : 1 ≤ x.f1 ∧ x.f1 ≤ 8
  · rw [if_pos hk] at h
    unfold postRes at h
    by_cases h1 : betw x.f0 0 1000000000 = true
    · rw [if_pos h1] at h
      by_cases h2 : lateB l k = true
      · rw [if_pos h2] at h; omega
      rw [if_neg h2] at h
      by_cases h3 : (decide (x.f1 ≤ 5) && !(spanOk x.f4 1000000)) = true
      · rw [if_pos h3] at h; omega
      rw [if_neg h3] at h
      by_cases h4 : entryErr x (l.take k) = 0
      · rw [if_pos h4] at h
        by_cases h5 : neB (bareOf x) x = true
        · rw [if_pos h5] at h; omega
        · refine ⟨hk, by simpa [betw] using h1, by simpa using h2, fun h6 => ?_, h4, by simpa using h5⟩
          have h7 : spanOk x.f4 1000000 = true := by simpa [h6] using h3
          simp only [spanOk, betw, Bool.and_eq_true, decide_eq_true_eq] at h7
          omega
      · rw [if_neg h4] at h; exact absurd h h4
    · rw [if_neg h1] at h; omega
  · rw [if_neg hk] at h; omega
structure PKI (s : KS) (l : List S36) : Prop where
  hs : s.hs.length = cnt isHeap l
  pk : ∀ lot, (s.pk.find? fun p => p.1 == lot).isSome = l.any (isLot 4 lot)
  at_ : ∀ p ∈ s.pk, 0 ≤ p.2.1 ∧ p.2.1 < s.ps.length
  ps : 1 ≤ s.ps.length
theorem any_snoc {p : S36 → Bool} {l : List S36} {x : S36} : (l ++ [x]).any p = (l.any p || p x) := by simp
theorem cnt_snoc {p : S36 → Bool} {l : List S36} {x : S36} : cnt p (l ++ [x]) = cnt p l + (if p x = true then 1 else 0) := by
  unfold cnt; rw [List.countP_append]; simp [List.countP_cons]
theorem PKI.step {s : KS} {l : List S36} (h : PKI s l) (x : S36) : PKI (stepK s x) (l ++ [x]) := by
  obtain ⟨h1, h2, h3, h4⟩ := h
  have other : ¬ x.f1 = 4 → ∀ lot, (s.pk.find? fun p => p.1 == lot).isSome = (l ++ [x]).any (isLot 4 lot) := fun hk lot => by
    have e : isLot 4 lot x = false := by unfold isLot; simp [hk]
    rw [any_snoc, h2 lot, e, Bool.or_false]
  have noheap : ¬ x.f1 = 1 → ¬ x.f1 = 5 → s.hs.length = cnt isHeap (l ++ [x]) := fun k1 k5 => by
    have e : isHeap x = false := by unfold isHeap; simp [k1, k5]
    rw [cnt_snoc, e, h1]; simp
  unfold stepK
  by_cases k1 : x.f1 = 1
  · rw [if_pos k1]
    have e : isHeap x = true := by unfold isHeap; simp [k1]
    exact ⟨by rw [cnt_snoc, e, ← h1]; simp [inK], other (by omega), h3, h4⟩
  rw [if_neg k1]
  by_cases k5 : x.f1 = 5
  · rw [if_pos k5]
    have e : isHeap x = true := by unfold isHeap; simp [k5]
    exact ⟨by rw [cnt_snoc, e, ← h1]; simp [backK], other (by omega), h3, h4⟩
  rw [if_neg k5]
  by_cases k2 : x.f1 = 2
  · rw [if_pos k2]
    exact ⟨noheap k1 k5, other (by omega), by simpa [chargeK] using h3, by simpa [chargeK] using h4⟩
  rw [if_neg k2]
  by_cases k4 : x.f1 = 4
  · rw [if_pos k4]
    refine ⟨noheap k1 k5, fun lot => ?_, fun p hp => ?_, by simpa [packK] using h4⟩
    · rw [any_snoc, ← h2 lot]
      show ((s.pk ++ [_]).find? _).isSome = _
      rw [List.find?_append]
      cases hf : (s.pk.find? fun p => p.1 == lot) with
      | some q => rfl
      | none =>
        by_cases e : x.f3 = lot <;> simp [isLot, k4, e]
    · rcases List.mem_append.1 hp with hp | hp
      · simpa [packK] using h3 p hp
      · simp at hp; subst hp; simp [packK]; omega
  rw [if_neg k4]
  by_cases k6 : x.f1 = 6
  · rw [if_pos k6]
    refine ⟨noheap k1 k5, other (by omega), fun p hp => ?_, by simp [closeK]⟩
    have := h3 p hp
    simp [closeK]; omega
  rw [if_neg k6]
  by_cases k7 : x.f1 = 7
  · rw [if_pos k7]
    exact ⟨noheap k1 k5, other (by omega), by simpa [claimK] using h3, by simpa [claimK] using h4⟩
  · rw [if_neg k7]
    exact ⟨noheap k1 k5, other k4, h3, h4⟩
theorem pki_take (l : List S36) : ∀ k, k ≤ l.length → PKI (keptOf (l.take k)) (l.take k)
  | 0, _ => ⟨rfl, fun _ => rfl, fun p hp => by simp [keptOf] at hp, by simp [keptOf]⟩
  | k + 1, h => by
    rw [kept_take (by omega : k < l.length), List.take_succ_eq_append_getElem (by omega : k < l.length)]
    exact (pki_take l k (by omega)).step _
theorem thereErr_zero {lot : Int} {l : List S36} (h : thereErr lot l = 0) : l.any (isLot 4 lot) = true ∧ l.any (isLot 8 lot) = false := by
  unfold thereErr at h
  cases h1 : l.any (isLot 4 lot) with
  | false => rw [h1] at h; simp at h
  | true =>
    cases h2 : l.any (isLot 8 lot) with
    | false => exact ⟨rfl, rfl⟩
    | true => rw [h1, h2] at h; simp at h
theorem claimErr_zero {x : S36} {l : List S36} (h : claimErr x l = 0) : thereErr x.f3 l = 0 ∧ betw x.f7 1 1000 = true ∧ l.any (isLot 7 x.f3) = false ∧ closedB x.f3 l = true := by
  unfold claimErr at h
  by_cases h1 : thereErr x.f3 l = 0
  · rw [if_pos h1] at h
    by_cases h2 : betw x.f7 1 1000 = true
    · rw [if_pos h2] at h
      by_cases h3 : l.any (isLot 7 x.f3) = true
      · rw [if_pos h3] at h; omega
      rw [if_neg h3] at h
      by_cases h4 : closedB x.f3 l = true
      · exact ⟨h1, h2, by simpa using h3, h4⟩
      · rw [if_neg h4] at h; omega
    · rw [if_neg h2] at h; omega
  · rw [if_neg h1] at h; exact absurd h h1
theorem find_pk {s : KS} {l : List S36} (h : PKI s l) {lot : Int} (ha : l.any (isLot 4 lot) = true) : ∃ p, (s.pk.find? fun p => p.1 == lot) = some p ∧ 0 ≤ p.2.1 ∧ p.2.1 < s.ps.length := by
  have := h.pk lot
  rw [ha] at this
  obtain ⟨p, hp⟩ := Option.isSome_iff_exists.1 this
  exact ⟨p, hp, h.at_ p (List.mem_of_find?_eq_some hp)⟩
theorem stepOk_of {ho fi : S23} {l : List S36} (h : BookOk ho fi l) {k : Nat} (hk : k < l.length) : StepOk (keptOf (l.take k)) l[k] := by
  have hp := postOk_of (h.post k hk)
  have hg : l.getD k z36 = l[k] := by simp [List.getD, hk]
  rw [hg] at hp
  have hi := pki_take l k (by omega)
  generalize l[k] = x at *
  generalize keptOf (l.take k) = s at *
  have he := hp.entry
  unfold entryErr at he
  refine ⟨fun h2 => ?_, fun h4 => ?_, fun h7 => ?_⟩
  · rw [if_neg (by omega), if_pos h2] at he
    unfold chargeErr at he
    by_cases hb : betw x.f2 0 (((cnt isHeap (l.take k) : Nat) : Int) - 1) = true
    · simp only [betw, Bool.and_eq_true, decide_eq_true_eq] at hb
      have := hi.hs
      omega
    · rw [if_neg hb] at he; omega
  · rw [if_neg (by omega), if_neg (by omega), if_neg (by omega), if_pos h4] at he
    unfold packErr at he
    by_cases hb : betw x.f3 0 1000000 = true
    · rw [if_pos hb] at he
      by_cases ha : (l.take k).any (isLot 4 x.f3) = true
      · rw [if_pos ha] at he; omega
      · have := hi.pk x.f3
        rw [show (l.take k).any (isLot 4 x.f3) = false by simpa using ha] at this
        cases hf : (s.pk.find? fun p => p.1 == x.f3) with
        | none => rfl
        | some q => rw [hf] at this; simp at this
    · rw [if_neg hb] at he; omega
  · rw [if_neg (by omega), if_neg (by omega), if_neg (by omega), if_neg (by omega), if_neg (by omega), if_neg (by omega), if_pos h7] at he
    exact find_pk hi (thereErr_zero (claimErr_zero he).1).1
end Go.Proofs.Ytbmkbokkmmdjdaa
end
section
namespace Go.Proofs.Ytbmkbokkmmdjdaa
open Go.RowKit Go.Proofs.YtbmkbokkmmdjdaaW.PrintWords Go.Proofs.YtbmkbokkmmdjdaaW.PrintLast Go.Proofs.YtbmkbokkmmdjdaaW.PrintMore
open Q Go.Shelf
attribute [local go_sem] Oper.semAt_some wide_depth wide_fn
set_option linter.unusedVariables false
set_option linter.unusedSimpArgs false
theorem stepOk_all {ho fi : S23} {l : List S36} (h : bookErr ho fi l = 0) : ∀ k (hk : k < l.length), StepOk (keptOf (l.take k)) l[k] := fun k hk => stepOk_of (bookOk_of h) hk
theorem fieldB0 (A1 A2 : Option Addr) (n1 c1 n2 c2 : Nat) (b : Option Nat) (w : World) : (Instr.field 73 (.agg #[.slice A1 n1 c1, .slice A2 n2 c2, .map b]) 0).run Try.prog w = .ok (.slice A1 n1 c1) w := by kernel_rfl
theorem fieldB1 (A1 A2 : Option Addr) (n1 c1 n2 c2 : Nat) (b : Option Nat) (w : World) : (Instr.field 73 (.agg #[.slice A1 n1 c1, .slice A2 n2 c2, .map b]) 1).run Try.prog w = .ok (.slice A2 n2 c2) w := by kernel_rfl
def RetHeaps (e0 : Int) (hs : List S60) (w : World) (e : Ending) (w' : World) : Prop := ∃ vh, e = .returned (.tuple #[vh, .int .i64 e0]) ∧ w'.ownsRow w.heap.size 60 6 vh hs.length (hF hs) ∧ Below w.heap.size w w'
def heapsOf (ho fi : S23) (l : List S36) : List S60 := if bookErr ho fi l = 0 then (keptOf l).hs else []
end Go.Proofs.Ytbmkbokkmmdjdaa
end
section
namespace Go.Proofs.Ytbmkbokkmmdjdaa
open Go Go.RowKit
variable {P : Program} {n : Nat}
def Iter2 (P : Program) (gf : Nat) (lb : Array Value) (enc : Nat → Array Value) (N : Nat) (Rd : World → Prop) : Prop :=
  ∀ (l : Nat) (J0 : World → Prop) (J : Nat → Obj → Nat → World → Prop) (R : Ending → World → Prop) (W : World),
    (∀ g o i W W', J g o i W → Turn W.heap.size W W' → J g o i W') → (∀ g o i W, J g o i W → Rd W ∧ W.heap[g]? = some o) → (∀ W, J0 W → Rd W) →
    (∀ g o W W', J0 W → Turn W.heap.size W W' → W.heap.size ≤ g → W'.heap[g]? = some o → o.isCells = true → J g o 0 W') →
    (∀ g o i W, i < N → J g o i W → YieldAt Fence.wide 0 P l (enc i) W fun e W' =>
      (e = .returned (.bool true) ∧ J g o (i + 1) W') ∨ (e = .returned (.bool false) ∧ R (.returned (.tuple #[])) W') ∨ (∃ ch, e = .panicked ch ∧ R (.panicked ch) W')) →
    (∀ g o W, J g o N W → R (.returned (.tuple #[])) W) → J0 W →
    CallsIn Fence.wide 0 P gf (#[.func (.yield l) #[] #[]] ++ lb) W R
theorem wpF_range2 {f₀ : FuncId} {fn₀ : Func} {g : Operand} {ps : Array Tmp} {assign body : Code} {Q : Exit → Act → World → Prop} {a : Act} {w : World}
    (hf₀ : P.funcs[f₀]? = some fn₀) {gf : Nat} {lb : Array Value} (hg : a.eval g = .func (.func gf) #[] lb) (eg : ∀ args w, (callFunc gf args).run P w = .ok (.enter gf args) w)
    {enc : Nat → Array Value} {N : Nat} {Rd : World → Prop} (hiter : Iter2 P gf lb enc N Rd) (henc : ∀ i, (enc i).size = ps.size)
    (I0 : World → Prop) (I : Nat → Obj → Nat → World → Prop) (Ir : Code → World → Prop) (Ip : List PanicEntry → World → Prop)
    (hI0 : ∀ W W', I0 W → Turn w.heap.size W W' → I0 W') (hI : ∀ g o i W W', I g o i W → Turn w.heap.size W W' → I g o i W') (hIr : ∀ c W W', Ir c W → Turn w.heap.size W W' → Ir c W')
    (hsz0 : ∀ W, I0 W → w.heap.size ≤ W.heap.size) (hsz : ∀ g o i W, I g o i W → w.heap.size ≤ W.heap.size)
    (hRd0 : ∀ W, I0 W → Rd W) (hRd : ∀ g o i W, I g o i W → Rd W ∧ W.heap[g]? = some o) (h0 : I0 w)
    (hstart : ∀ g o W W', I0 W → Turn W.heap.size W W' → w.heap.size ≤ W.heap.size → W.heap.size ≤ g → W'.heap[g]? = some o → o.isCells = true → I g o 0 W')
    (hround : ∀ (l : Nat) (g : Nat) (o : Obj) (i : Nat) (W : World), i < N → I g o i W →
      assign.wpIn (Fence.wide.inRound l) 0 P (Exit.then (fun a₁ w₁ => KeepsOthers W w₁ ∧ ∀ w₂, Turn w.heap.size w₁ w₂ → body.wpIn (Fence.wide.inRound l) 0 P (bodyP (I g o (i + 1)) Ir Ip w₂) a₁ w₂) (fun _ _ _ => False)) { tmps := (ps.zip (enc i)).foldl (fun t (p, v) => t.setIfInBounds p v) a.tmps, defers := [] } W)
    (hdone : ∀ (g : Nat) (o : Obj) (D : Nat) (W : World), I g o N W → W.heap[D]? = some (.deferred (some [])) → w.heap.size ≤ D → Q .normal { a with defers := { target := .collected D, args := #[] } :: a.defers } W)
    (hstop : ∀ (D : Nat) (c : Code) (W : World), Ir c W → W.heap[D]? = some (.deferred (some [])) → w.heap.size ≤ D → wpF P f₀ c Q { a with defers := { target := .collected D, args := #[] } :: a.defers } W)
    (hpan : ∀ (D : Nat) (ch : List PanicEntry) (W : World), Ip ch W → W.heap[D]? = some (.deferred (some [])) → w.heap.size ≤ D → Q (.panic ch) { a with defers := { target := .collected D, args := #[] } :: a.defers } W) :
    wpF P f₀ (.rangeFunc g ps assign body) Q a w := by
  intro b k cs0 hb hro
  obtain ⟨rec, hrec⟩ : ∃ rec : LoopState → Option Code → Loop, rec = fun st pe => { state := st, pending := pe, fn := f₀, tmps := a.tmps, params := ps, assign, body, defers := w.heap.size } := ⟨_, rfl⟩
  obtain ⟨W1, hW1⟩ : ∃ W1, (w.alloc (.deferred (some []))).alloc (.loop (rec .ready none)) = W1 := ⟨_, rfl⟩
  have hL1 : W1.heap[w.heap.size + 1]? = some (.loop (rec .ready none)) := by
    rw [← hW1]; have := World.alloc_heap_new (w.alloc (.deferred (some []))) (.loop (rec .ready none)); rwa [World.size_alloc] at this
  have hK1 : W1.heap[w.heap.size]? = some (.deferred (some [])) := by
    rw [← hW1]; exact (Below.heap_alloc _ _ _ (by simp)).trans (World.alloc_heap_new w _)
  have hI1 : I0 W1 := by rw [← hW1]; exact hI0 _ _ h0 ((Turn.alloc (Nat.le_refl _) _).trans (Turn.alloc (by simp) _))
  have he : (Instr.enterLoop b.fn a.tmps ps assign body b.roundOf).run P w = .ok (w.heap.size + 1, [{ target := .collected w.heap.size, args := #[] }]) W1 := by
    rw [hro, hb, ← hW1, hrec]; exact run_enterLoop_outer _ _ _ _ _
  have hres : (resolve a.eval (rangeCall g (w.heap.size + 1)) 0).run P W1 = .ok { target := .fn (.func gf) lb, args := #[.func (.yield (w.heap.size + 1)) #[] #[]] } W1 := by
    simp only [resolve, hg]; simp [go_sem]
  have hinv : (invoke (.fn (.func gf) lb) #[.func (.yield (w.heap.size + 1)) #[] #[]]).run P W1 = .ok (.enter gf (#[.func (.yield (w.heap.size + 1)) #[] #[]] ++ lb)) W1 := by
    simp [invoke, go_sem, eg]
  have henter := stepR_rangeFunc (P := P) (b := b) (a := a) (k := k) (cs := cs0) (w := w) he hres hinv
  have hcall := hiter (w.heap.size + 1)
    (fun W => I0 W ∧ W.heap[w.heap.size + 1]? = some (.loop (rec .ready none)) ∧ W.heap[w.heap.size]? = some (.deferred (some [])))
    (fun g o i W => I g o i W ∧ W.heap[w.heap.size + 1]? = some (.loop (rec .ready none)) ∧ W.heap[w.heap.size]? = some (.deferred (some [])))
    (fun e W => W.heap[w.heap.size]? = some (.deferred (some [])) ∧ match e with
      | .returned _ => ((∃ g o, I g o N W) ∧ W.heap[w.heap.size + 1]? = some (.loop (rec .ready none))) ∨ (∃ c, Ir c W ∧ W.heap[w.heap.size + 1]? = some (.loop (rec .done (some c))))
      | .panicked ch => Ip ch W
      | .outgrown => False) W1
    (fun g o i W W' h ht => by
      have hs := hsz g o i W h.1
      have hb1 : ∀ k o, W.heap[k]? = some o → W'.heap[k]? = some o := fun k o hk => (ht.below.block k (Array.getElem?_eq_some_iff.1 hk).1).trans hk
      exact ⟨hI _ _ _ _ _ h.1 (ht.mono hs), hb1 _ _ h.2.1, hb1 _ _ h.2.2⟩)
    (fun g o i W h => hRd g o i W h.1) (fun W h => hRd0 W h.1)
    (fun g o W W' h ht hg ho hc => by
      have hb1 : ∀ k o, W.heap[k]? = some o → W'.heap[k]? = some o := fun k o hk => (ht.below.block k (Array.getElem?_eq_some_iff.1 hk).1).trans hk
      exact ⟨hstart g o W W' h.1 ht (hsz0 _ h.1) hg ho hc, hb1 _ _ h.2.1, hb1 _ _ h.2.2⟩)
    (by
      rintro g o i W hlt ⟨hi, hl, hk⟩
      have hlt' : w.heap.size + 1 < W.heap.size := (Array.getElem?_eq_some_iff.1 hl).1
      have hy := run_yield (P := P) (args := enc i) hl (by rw [hrec]; exact henc i)
      rw [hrec] at hy
      refine ⟨f₀, _, assign, body, hy, roundIn_P (fn := fn₀) trivial hf₀ (wpIn_mono (hround _ g o i W hlt hi) ?_)⟩
      intro e a₁ w₁ hp₁
      cases e with
      | exit id => exact hp₁.elim
      | goto t => exact hp₁.elim
      | ret => exact hp₁.elim
      | panic ch => exact hp₁.elim
      | outgrown => exact hp₁.elim
      | normal =>
      obtain ⟨hk1, hbody⟩ := hp₁
      have hl1 := hk1.same _ _ hl rfl
      have hk1' := hk1.same _ _ hk rfl
      refine ⟨_, run_beginRound hl1 (by rw [hrec]), ?_⟩
      have hlt1 : w.heap.size + 1 < w₁.heap.size := (Array.getElem?_eq_some_iff.1 hl1).1
      have hl2 : (w₁.putObj (w.heap.size + 1) (.loop { rec .ready none with state := .busy })).heap[w.heap.size + 1]? = some (.loop { rec .ready none with state := .busy }) := World.putObj_heap_same hlt1
      have hk2 : (w₁.putObj (w.heap.size + 1) (.loop { rec .ready none with state := .busy })).heap[w.heap.size]? = some (.deferred (some [])) := (World.putObj_heap_other (by omega)).trans hk1'
      refine wpIn_mono (hbody _ (Turn.putObj _ (by omega) hl1 rfl)) ?_
      have fin : ∀ (jump : Option Code) (W3 : World), KeepsOthers (w₁.putObj (w.heap.size + 1) (.loop { rec .ready none with state := .busy })) W3 →
          (Instr.endRound (w.heap.size + 1) jump).run P W3 = .ok (.bool jump.isNone) (W3.putObj (w.heap.size + 1) (.loop (rec (if jump.isNone then .ready else .done) jump))) ∧
          Turn w.heap.size W3 (W3.putObj (w.heap.size + 1) (.loop (rec (if jump.isNone then .ready else .done) jump))) ∧
          (W3.putObj (w.heap.size + 1) (.loop (rec (if jump.isNone then .ready else .done) jump))).heap[w.heap.size + 1]? = some (.loop (rec (if jump.isNone then .ready else .done) jump)) ∧
          (W3.putObj (w.heap.size + 1) (.loop (rec (if jump.isNone then .ready else .done) jump))).heap[w.heap.size]? = some (.deferred (some [])) := fun jump W3 hk3 => by
        have hl3 := hk3.same _ _ hl2 rfl
        have := run_endRound (P := P) jump hl3
        rw [hrec] at this ⊢
        exact ⟨this, Turn.putObj _ (by omega) hl3 rfl, World.putObj_heap_same (Array.getElem?_eq_some_iff.1 hl3).1, (World.putObj_heap_other (by omega)).trans (hk3.same _ _ hk2 rfl)⟩
      rintro e a3 W3 hp
      cases e with
      | normal =>
        obtain ⟨hk3, hi3⟩ := hp
        obtain ⟨hr, ht3, hl4, hk4⟩ := fin none W3 hk3
        exact ⟨_, _, hr, .inl ⟨rfl, hI _ _ _ _ _ hi3 ht3, hl4, hk4⟩⟩
      | ret =>
        obtain ⟨hk3, hi3⟩ := hp
        obtain ⟨hr, ht3, hl4, hk4⟩ := fin (some .ret) W3 hk3
        exact ⟨_, _, hr, .inr (.inl ⟨rfl, hk4, .inr ⟨.ret, hIr _ _ _ hi3 ht3, hl4⟩⟩)⟩
      | exit id =>
        obtain ⟨hk3, hi3⟩ := hp
        obtain ⟨hr, ht3, hl4, hk4⟩ := fin (some (.exit id)) W3 hk3
        exact ⟨_, _, hr, .inr (.inl ⟨rfl, hk4, .inr ⟨.exit id, hIr _ _ _ hi3 ht3, hl4⟩⟩)⟩
      | goto t =>
        obtain ⟨hk3, hi3⟩ := hp
        obtain ⟨hr, ht3, hl4, hk4⟩ := fin (some (.goto t)) W3 hk3
        exact ⟨_, _, hr, .inr (.inl ⟨rfl, hk4, .inr ⟨.goto t, hIr _ _ _ hi3 ht3, hl4⟩⟩)⟩
      | panic ch =>
        obtain ⟨hd3, hk3, hi3⟩ := hp
        exact ⟨hd3, .inr (.inr ⟨ch, rfl, hk3.same _ _ hk2 rfl, hi3⟩)⟩
      | outgrown => exact hp.elim)
    (fun g o W h => ⟨h.2.2, .inl ⟨⟨g, o, h.1⟩, h.2.1⟩⟩) ⟨hI1, hL1, hK1⟩
  obtain ⟨e, w₃, fr, hR, hsteps, hfn, hleave⟩ := hcall.2 (b.atR { a with defers := [{ target := .collected w.heap.size, args := #[] }] ++ a.defers } (.inRangeFunc (w.heap.size + 1) :: k) :: cs0) (room_wide _)
  cases e with
  | outgrown => exact hR.2.elim
  | panicked chain =>
    refine ⟨.panic chain, _, w₃, hpan w.heap.size chain w₃ hR.2 hR.1 (Nat.le_refl _), .inRangeFunc (w.heap.size + 1) :: k, .head calm henter (StepsIn.trans hsteps (.one calm ?_))⟩
    have := step_leave_panicked (P := P) (c := b.atR { a with defers := [{ target := .collected w.heap.size, args := #[] }] ++ a.defers } (.inRangeFunc (w.heap.size + 1) :: k)) (cs := cs0) hleave
    rw [this]; rfl
  | returned v =>
    have sback : ∀ (jump : Option Code) (w₄ : World), (Instr.endLoop (w.heap.size + 1)).run P w₃ = .ok jump w₄ →
        StepsIn (Machine.fenced P Fence.wide) P (lone (b.atR a (.code (.rangeFunc g ps assign body) :: k)) cs0 w) (lone (b.atR { a with defers := [{ target := .collected w.heap.size, args := #[] }] ++ a.defers } ((jump.map Item.code).toList ++ k)) cs0 w₄) := fun jump w₄ hend => by
      refine .head calm henter (StepsIn.trans hsteps (.head calm ?_ (.one calm (stepR_endRangeFunc hend))))
      rw [← finish_atR_inRangeFunc (w.heap.size + 1) v]; exact step_leave_returned hleave
    obtain ⟨hD, hR⟩ := hR
    rcases hR with ⟨⟨g1, o1, hi⟩, hl⟩ | ⟨c, hi, hl⟩
    · have hend := run_endLoop (P := P) hl (by rw [hrec]; simp)
      rw [hrec] at hend
      have ht := Turn.putObj (B := w.heap.size) (.loop { rec .ready none with state := .exhausted }) (Nat.le_succ _) hl rfl
      rw [hrec] at ht
      have s := sback _ _ hend
      exact ⟨.normal, _, _, hdone g1 o1 w.heap.size _ (hI _ _ _ _ _ hi ht) ((World.putObj_heap_other (by omega)).trans hD) (Nat.le_refl _), s⟩
    · have hend := run_endLoop (P := P) hl (by rw [hrec]; simp)
      rw [hrec] at hend
      have ht := Turn.putObj (B := w.heap.size) (.loop { rec .done (some c) with state := .exhausted }) (Nat.le_succ _) hl rfl
      rw [hrec] at ht
      have s := sback _ _ hend
      obtain ⟨e', a'', w₅, hq, harr⟩ := hstop w.heap.size c _ (hIr _ _ _ hi ht) ((World.putObj_heap_other (by omega)).trans hD) (Nat.le_refl _) b k cs0 hb hro
      exact ⟨e', a'', w₅, hq, .of_steps s harr⟩
end Go.Proofs.Ytbmkbokkmmdjdaa
end
section
namespace Go.Proofs.Ytbmkbokkmmdjdaa
open Go.RowKit Go.Proofs.YtbmkbokkmmdjdaaW.PrintWords Go.Proofs.YtbmkbokkmmdjdaaW.PrintLast Go.Proofs.YtbmkbokkmmdjdaaW.PrintMore
open Q Go.Shelf
attribute [local go_sem] Oper.semAt_some wide_depth wide_fn
set_option linter.unusedVariables false
set_option linter.unusedSimpArgs false

def pV (x : S52) : Value := .agg #[.int .i64 x.f0.f0, .int .i64 x.f0.f1, .int .i64 x.f1.f0, .int .i64 x.f1.f1, .int .i64 x.f2.f0, .int .i64 x.f2.f1, .int .i64 x.f3.f0, .int .i64 x.f3.f1, .int .i64 x.f4]
structure ReadsB (Bb : Nat) (ho fi : S23) (A : Option Addr) (c : Nat) (l : List S36) (W : World) : Prop where
  box : W.heap[Bb]? = some (.cells #[.int .i64 ho.f0, .int .i64 ho.f1, .int .i64 fi.f0, .int .i64 fi.f1, .slice A l.length c] 26 (0, 0))
  row : Kd.C k36 W A l.length l
theorem enters68 : ∀ args w, (callFunc 68 args).run Try.prog w = .ok (.enter 68 args) w := enters_of Try.func68 (by kernel_rfl) rfl
set_option maxHeartbeats 2000000 in
theorem numbered_any (ho fi : S23) (A : Option Addr) (c : Nat) (l : List S36) (w : World) : Calls Try.prog 36 #[.agg #[.int .i64 ho.f0, .int .i64 ho.f1, .int .i64 fi.f0, .int .i64 fi.f1, .slice A l.length c]] w fun e w' => e = .returned (.func (.func 68) #[] #[.pointer (some ⟨w.heap.size, 0, none⟩)]) ∧ w' = w.alloc (.cells #[.int .i64 ho.f0, .int .i64 ho.f1, .int .i64 fi.f0, .int .i64 fi.f1, .slice A l.length c] 26) := by
  have hmf := makeFunc_any
  go_enter Try.func36, Try.ntmps36
  go_wp2
  go_ret
  exact ⟨rfl, rfl⟩
set_option maxRecDepth 100000 in
set_option maxHeartbeats 4000000 in
theorem per_iter (Bb : Nat) (ho fi : S23) (A : Option Addr) (c : Nat) (l : List S36) (hv : bookErr ho fi l = 0) :
    Iter2 Try.prog 68 #[.pointer (some ⟨Bb, 0, none⟩)] (fun i => #[.int .i64 i, pV ((keptOf l).ps.getD i z52)]) (keptOf l).ps.length (ReadsB Bb ho fi A c l) := by
  intro lp J0 J R W hJ hRd hRd0 hSt hY hN h0
  have hu := Try.underlying73
  have hu1 := Try.underlying46
  have hu2 := Try.underlying52
  refine callsIn_of_wp Try.func68 rfl trivial ?_ rfl
  simp only [Try.ntmps68, List.size_toArray, List.length_cons, List.length_nil, Nat.reduceAdd, Nat.reduceSub, Array.replicate_succ, Array.replicate_zero, List.push_toArray, List.append_toArray, List.nil_append, List.cons_append]
  have e0 := (hRd0 W h0).box
  have y0 := blkCell e0 0
  have y1 := blkCell e0 1
  have y2 := blkCell e0 2
  have y3 := blkCell e0 3
  have y4 := blkCell e0 4
  simp at y0 y1 y2 y3 y4
  have HL := hid (bookOk_of hv).len
  have HK := hid ((callsIn_wide (n := 0)).2 (kept_any ho fi A c l W (hRd0 W h0).row (by have := HL.out; omega) (stepOk_all hv)))
  have HJ := hid hJ
  have HR := hid hRd
  have HY := hid hY
  have HN := hid hN
  have HS := hid hSt
  have H0 := hid h0
  clear hJ hRd hRd0 hSt hY hN h0 e0
  gi_wp2_with fail
  refine HK.out.mono ?_
  rintro e W3 ⟨vh, vp, Bm, rfl, hBm, hrh, hrp, hmp, hb⟩
  clear HK
  obtain ⟨m, hm⟩ : ∃ m, (keptOf l).ps.length = m + 1 := ⟨(keptOf l).ps.length - 1, by have := kept_len l l.length (Nat.le_refl _); rw [List.take_length] at this; omega⟩
  rw [hm] at hrp
  obtain ⟨g, cap, rfl⟩ := ownsRow_succ hrp
  obtain ⟨Ah, ch, rfl⟩ := own_slice hrh
  have hf := fieldB1 Ah (some ⟨g, 0, none⟩) (keptOf l).hs.length ch (m + 1) cap (some Bm) W3
  obtain ⟨o, ho, hco⟩ : ∃ o, W3.heap[g]? = some o ∧ o.isCells = true := by
    rcases hrp.2 with ⟨h1, _⟩ | ⟨g1, c1, u1, h1, _, k1, _⟩
    · cases h1
    · cases h1; exact ⟨_, k1, rfl⟩
  have hq : ∀ (X : World), X.heap[g]? = some o → ∀ k j, k < m + 1 → j < 9 → X.cell? ⟨g, k * 9 + j, none⟩ = (pC ((keptOf l).ps.getD k z52))[j]? := fun X hX k j hk hj => by
    have e := hrp.cellAt (k * 9 + j) (by omega)
    rw [pF_at (by omega) hj] at e
    rw [← e]
    unfold World.cell?
    rw [hX, ho]
  have h3 := HS.out g o W W3 H0.out (Turn.of_below hb) (by have := (hrp.lt g rfl).1; omega) ho hco
  have HQ := hid hq
  have H3 := hid h3
  have HM := hid hm
  have HMB := hid (show m ≤ 256 by have := kept_len l l.length (Nat.le_refl _); rw [List.take_length] at this; have := HL.out; omega)
  clear hq h3 hm ho hco hb hrp hrh hmp hBm y0 y1 y2 y3 y4 HS H0
  gi_wp2
  clear hf
  gi_loopw [9] (fun v9 wr => ∃ k : Nat, k ≤ m + 1 ∧ v9 = .int .i64 k ∧ J g o k wr) (fun v9 _ => m + 1 - (intOf v9).toNat)
  case atStart => exact ⟨0, by omega, rfl, H3.out⟩
  case round =>
    obtain ⟨k, hk, rfl, hj⟩ := hrel
    by_cases hlt : k < m + 1
    · have hX := (HR.out g o k wr hj).2
      have q0 := HQ.out wr hX k 0 hlt (by omega)
      have q1 := HQ.out wr hX k 1 hlt (by omega)
      have q2 := HQ.out wr hX k 2 hlt (by omega)
      have q3 := HQ.out wr hX k 3 hlt (by omega)
      have q4 := HQ.out wr hX k 4 hlt (by omega)
      have q5 := HQ.out wr hX k 5 hlt (by omega)
      have q6 := HQ.out wr hX k 6 hlt (by omega)
      have q7 := HQ.out wr hX k 7 hlt (by omega)
      have q8 := HQ.out wr hX k 8 hlt (by omega)
      obtain ⟨pp, hpp⟩ : ∃ pp, (keptOf l).ps.getD k z52 = pp := ⟨_, rfl⟩
      rw [hpp] at q0 q1 q2 q3 q4 q5 q6 q7 q8
      simp [pC] at q0 q1 q2 q3 q4 q5 q6 q7 q8
      obtain ⟨fn, tmps, assign, body, hy, hR⟩ := HY.out g o k (wr.alloc (.cells #[.int .i64 pp.f0.f0, .int .i64 pp.f0.f1, .int .i64 pp.f1.f0, .int .i64 pp.f1.f1, .int .i64 pp.f2.f0, .int .i64 pp.f2.f1, .int .i64 pp.f3.f0, .int .i64 pp.f3.f1, .int .i64 pp.f4] 52)) (by have := HM.out; omega) (HJ.out _ _ _ _ _ hj (Turn.alloc (Nat.le_refl _) _))
      simp only [hpp, pV] at hy
      have HRR := hid hR
      have hmb := HMB.out
      have HLT := hid hlt
      clear hR hX
      gi_wp2
      refine HRR.out.mono ?_
      rintro e W4 (⟨rfl, hJ3⟩ | ⟨rfl, hR3⟩ | ⟨ch, rfl, hR3⟩)
      · gi_wp2
        go_roundw
        case rel => exact ⟨k + 1, by have := HLT.out; omega, by go_num, hJ3⟩
        case measure => have := HLT.out; simp [intOf]; omega
      · gi_wp2
        refine bodyPost_ret (results_none rfl _ _ _) rfl ?_
        exact hR3
      · exact ⟨rfl, hR3⟩
    · obtain rfl : k = m + 1 := by omega
      have HE := hid (HN.out g o wr (by rw [HM.out]; exact hj))
      gi_wp2
      go_end0
      exact HE.out
end Go.Proofs.Ytbmkbokkmmdjdaa
end
section
namespace Go.Proofs.Ytbmkbokkmmdjdaa
open Go.RowKit Go.Proofs.YtbmkbokkmmdjdaaW.PrintWords Go.Proofs.YtbmkbokkmmdjdaaW.PrintLast Go.Proofs.YtbmkbokkmmdjdaaW.PrintMore
open Q Go.Shelf
attribute [local go_sem] Oper.semAt_some wide_depth wide_fn
set_option linter.unusedVariables false
set_option linter.unusedSimpArgs false

def shareRes (ho fi : S23) (l : List S36) (n : Int) : S23 × Int :=
  if bookErr ho fi l = 0 then (if 0 ≤ n ∧ n < (keptOf l).ps.length then (shareS ((keptOf l).ps.getD n.toNat z52), 0) else (z23, 7)) else (z23, bookErr ho fi l)
def RetSE (p : S23 × Int) (w : World) (e : Ending) (w' : World) : Prop := e = .returned (.tuple #[.agg #[.int .i64 p.1.f0, .int .i64 p.1.f1], .int .i64 p.2]) ∧ Below w.heap.size w w'
structure ShB (w : World) (ho fi : S23) (A : Option Addr) (c : Nat) (l : List S36) (n : Int) (s : S23) (e : Int) (W : World) : Prop where
  h0 : W.heap[w.heap.size]? = some (.cells #[.int .i64 ho.f0, .int .i64 ho.f1, .int .i64 fi.f0, .int .i64 fi.f1, .slice A l.length c] 26 (0, 0))
  h1 : W.heap[w.heap.size + 1]? = some (.cells #[.int .i64 n] 3 (0, 0))
  h2 : W.heap[w.heap.size + 1 + 1]? = some (.cells #[.int .i64 s.f0, .int .i64 s.f1] 23 (0, 0))
  h3 : W.heap[w.heap.size + 1 + 1 + 1]? = some (.cells #[.int .i64 e] 28 (0, 0))
  be : Below w.heap.size w W
theorem ShB.grow {w W W' : World} {ho fi : S23} {A : Option Addr} {c : Nat} {l : List S36} {n e : Int} {s : S23} (h : ShB w ho fi A c l n s e W) (hb : Below W.heap.size W W') : ShB w ho fi A c l n s e W' :=
  ⟨heap_grow h.h0 hb, heap_grow h.h1 hb, heap_grow h.h2 hb, heap_grow h.h3 hb, h.be.trans (hb.mono h.be.size)⟩
theorem ShB.turn {w W W' : World} {ho fi : S23} {A : Option Addr} {c : Nat} {l : List S36} {n e : Int} {s : S23} (h : ShB w ho fi A c l n s e W) {B : Nat} (hB : w.heap.size ≤ B) (ht : Turn B W W') : ShB w ho fi A c l n s e W' :=
  ⟨ht.cells _ _ h.h0 rfl, ht.cells _ _ h.h1 rfl, ht.cells _ _ h.h2 rfl, ht.cells _ _ h.h3 rfl, h.be.trans (ht.below.mono hB)⟩
theorem ShB.lt {w W : World} {ho fi : S23} {A : Option Addr} {c : Nat} {l : List S36} {n e : Int} {s : S23} (h : ShB w ho fi A c l n s e W) : w.heap.size + 1 + 1 + 1 < W.heap.size := cell_lt (blkCell h.h3 0)
theorem ShB.put {w W : World} {ho fi : S23} {A : Option Addr} {c : Nat} {l : List S36} {n e : Int} {s : S23} (h : ShB w ho fi A c l n s e W) (s' : S23) (e' : Int) :
    ShB w ho fi A c l n s' e' (((W.setCell ⟨w.heap.size + 1 + 1, 0, none⟩ (.int .i64 s'.f0)).setCell ⟨w.heap.size + 1 + 1, 1, none⟩ (.int .i64 s'.f1)).setCell ⟨w.heap.size + 1 + 1 + 1, 0, none⟩ (.int .i64 e')) := by
  have o : ∀ {k : Nat} {ob : Obj}, k ≠ w.heap.size + 1 + 1 → k ≠ w.heap.size + 1 + 1 + 1 → W.heap[k]? = some ob → (((W.setCell ⟨w.heap.size + 1 + 1, 0, none⟩ (.int .i64 s'.f0)).setCell ⟨w.heap.size + 1 + 1, 1, none⟩ (.int .i64 s'.f1)).setCell ⟨w.heap.size + 1 + 1 + 1, 0, none⟩ (.int .i64 e')).heap[k]? = some ob :=
    fun h1 h2 hk => set_other (p := ⟨w.heap.size + 1 + 1 + 1, 0, none⟩) h2 (set_other (p := ⟨w.heap.size + 1 + 1, 1, none⟩) h1 (set_other (p := ⟨w.heap.size + 1 + 1, 0, none⟩) h1 hk))
  refine ⟨o (by omega) (by omega) h.h0, o (by omega) (by omega) h.h1, ?_, ?_, ?_⟩
  · exact set_other (p := ⟨w.heap.size + 1 + 1 + 1, 0, none⟩) (by simp) (set_snd (set_fst h.h2))
  · exact heap_set_same (set_other (p := ⟨w.heap.size + 1 + 1, 1, none⟩) (by simp) (set_other (p := ⟨w.heap.size + 1 + 1, 0, none⟩) (by simp) h.h3))
  · exact ((h.be.setCell (p := ⟨w.heap.size + 1 + 1, 0, none⟩) (by simp; omega) _).setCell (p := ⟨w.heap.size + 1 + 1, 1, none⟩) (by simp; omega) _).setCell (p := ⟨w.heap.size + 1 + 1 + 1, 0, none⟩) (by simp; omega) _
theorem ShB.new (w : World) (ho fi : S23) (A : Option Addr) (c : Nat) (l : List S36) (n : Int) : ShB w ho fi A c l n z23 0 ((((w.alloc (.cells #[.int .i64 ho.f0, .int .i64 ho.f1, .int .i64 fi.f0, .int .i64 fi.f1, .slice A l.length c] 26)).alloc (.cells #[.int .i64 n] 3)).alloc (.cells #[.int .i64 0, .int .i64 0] 23)).alloc (.cells #[.int .i64 0] 28)) := by
  have e0 := alloc_old (o' := .cells #[.int .i64 0] 28) (alloc_old (o' := .cells #[.int .i64 0, .int .i64 0] 23) (alloc_old (o' := .cells #[.int .i64 n] 3) (World.alloc_heap_new w (.cells #[.int .i64 ho.f0, .int .i64 ho.f1, .int .i64 fi.f0, .int .i64 fi.f1, .slice A l.length c] 26))))
  have e1 := alloc_old (o' := .cells #[.int .i64 0] 28) (alloc_old (o' := .cells #[.int .i64 0, .int .i64 0] 23) (World.alloc_heap_new (w.alloc (.cells #[.int .i64 ho.f0, .int .i64 ho.f1, .int .i64 fi.f0, .int .i64 fi.f1, .slice A l.length c] 26)) (.cells #[.int .i64 n] 3)))
  have e2 := alloc_old (o' := .cells #[.int .i64 0] 28) (World.alloc_heap_new ((w.alloc (.cells #[.int .i64 ho.f0, .int .i64 ho.f1, .int .i64 fi.f0, .int .i64 fi.f1, .slice A l.length c] 26)).alloc (.cells #[.int .i64 n] 3)) (.cells #[.int .i64 0, .int .i64 0] 23))
  have e3 := World.alloc_heap_new (((w.alloc (.cells #[.int .i64 ho.f0, .int .i64 ho.f1, .int .i64 fi.f0, .int .i64 fi.f1, .slice A l.length c] 26)).alloc (.cells #[.int .i64 n] 3)).alloc (.cells #[.int .i64 0, .int .i64 0] 23)) (.cells #[.int .i64 0] 28)
  simp only [World.size_alloc] at e1 e2 e3
  exact ⟨e0, e1, e2, e3, ((((Below.refl w.heap.size w).alloc (Nat.le_refl _) _).alloc (by simp) _).alloc (by simp; omega) _).alloc (by simp; omega) _⟩
set_option maxRecDepth 100000 in
set_option maxHeartbeats 4000000 in
theorem Share_no (ho fi : S23) (A : Option Addr) (c : Nat) (l : List S36) (n : Int) (w : World) (hr : Kd.C k36 w A l.length l) (hc : l.length ≤ c) (hv : bookErr ho fi l ≠ 0) :
    Calls Try.prog 16 #[.agg #[.int .i64 ho.f0, .int .i64 ho.f1, .int .i64 fi.f0, .int .i64 fi.f1, .slice A l.length c], .int .i64 n] w (RetSE (z23, bookErr ho fi l) w) := by
  have hu := Try.underlying23
  have hS := ShB.new w ho fi A c l n
  go_enter Try.func16, Try.ntmps16
  go_wp2_with fail
  generalize ((((w.alloc (.cells #[.int .i64 ho.f0, .int .i64 ho.f1, .int .i64 fi.f0, .int .i64 fi.f1, .slice A l.length c] 26)).alloc (.cells #[.int .i64 n] 3)).alloc (.cells #[.int .i64 0, .int .i64 0] 23)).alloc (.cells #[.int .i64 0] 28)) = W1 at *
  refine (Check_any ho fi A c l _ (Kd.C_below hr hS.be) hc).mono ?_
  rintro e W2 ⟨rfl, hb⟩
  have HS2 := hid (hS.grow hb)
  have d1 : (bookErr ho fi l != 0) = true := by simpa using hv
  have c0 := blkCell HS2.out.h2 0
  have g0 := blkFrozen HS2.out.h2 0
  have c1 := blkCell HS2.out.h2 1
  have g1 := blkFrozen HS2.out.h2 1
  have c2 := blkCell HS2.out.h3 0
  have g2 := blkFrozen HS2.out.h3 0
  simp at c0 c1 c2
  clear hb hS hv
  go_wp2
  have hz : ShB w ho fi A c l n z23 (bookErr ho fi l) (((W2.setCell ⟨w.heap.size + 1 + 1, 0, none⟩ (.int .i64 0)).setCell ⟨w.heap.size + 1 + 1, 1, none⟩ (.int .i64 0)).setCell ⟨w.heap.size + 1 + 1 + 1, 0, none⟩ (.int .i64 (bookErr ho fi l))) := HS2.out.put z23 (bookErr ho fi l)
  generalize (((W2.setCell ⟨w.heap.size + 1 + 1, 0, none⟩ (.int .i64 0)).setCell ⟨w.heap.size + 1 + 1, 1, none⟩ (.int .i64 0)).setCell ⟨w.heap.size + 1 + 1 + 1, 0, none⟩ (.int .i64 (bookErr ho fi l))) = Wz at *
  have q0 : Wz.cell? ⟨w.heap.size + 1 + 1, 0, none⟩ = some (.int .i64 0) := blkCell hz.h2 0
  have q1 : Wz.cell? ⟨w.heap.size + 1 + 1, 1, none⟩ = some (.int .i64 0) := blkCell hz.h2 1
  have q2 := blkCell hz.h3 0
  simp at q2
  refine bodyPost_ret (v := .tuple #[.agg #[.int .i64 0, .int .i64 0], .int .i64 (bookErr ho fi l)]) (by simp [results, Try.results16, go_sem, q0, q1, q2]) rfl ?_
  exact ⟨rfl, hz.be⟩
def ShI (w : World) (Bb : Nat) (ho fi : S23) (A : Option Addr) (c : Nat) (l : List S36) (n : Int) (g : Nat) (o : Obj) (k : Nat) (W : World) : Prop := ReadsB Bb ho fi A c l W ∧ ShB w ho fi A c l n z23 0 W ∧ W.heap[g]? = some o ∧ (o.isCells = true ∧ w.heap.size + 1 + 1 + 1 < g) ∧ ∀ j : Nat, j < k → (j : Int) ≠ n
def ShR (w : World) (ho fi : S23) (A : Option Addr) (c : Nat) (l : List S36) (n : Int) (cc : Code) (W : World) : Prop := cc = .ret ∧ (0 ≤ n ∧ n < (keptOf l).ps.length) ∧ ShB w ho fi A c l n (shareS ((keptOf l).ps.getD n.toNat z52)) 0 W
set_option maxRecDepth 100000 in
set_option maxHeartbeats 4000000 in
theorem Share_yes (ho fi : S23) (A : Option Addr) (c : Nat) (l : List S36) (n : Int) (w : World) (hr : Kd.C k36 w A l.length l) (hc : l.length ≤ c) (hv : bookErr ho fi l = 0) :
    Calls Try.prog 16 #[.agg #[.int .i64 ho.f0, .int .i64 ho.f1, .int .i64 fi.f0, .int .i64 fi.f1, .slice A l.length c], .int .i64 n] w (RetSE (shareRes ho fi l n) w) := by
  have hu := Try.underlying23
  have hmf := makeFunc_any
  have hS := ShB.new w ho fi A c l n
  have HV := hid hv
  refine calls_of_wpF Try.func16 rfl ?_
  simp only [Try.ntmps16, List.size_toArray, List.length_cons, List.length_nil, Nat.reduceAdd, Nat.reduceSub, Array.replicate_succ, Array.replicate_zero, List.push_toArray, List.append_toArray, List.nil_append, List.cons_append]
  refine wpF_seq (wpF_of_wp ?_)
  go_wp2
  generalize ((((w.alloc (.cells #[.int .i64 ho.f0, .int .i64 ho.f1, .int .i64 fi.f0, .int .i64 fi.f1, .slice A l.length c] 26)).alloc (.cells #[.int .i64 n] 3)).alloc (.cells #[.int .i64 0, .int .i64 0] 23)).alloc (.cells #[.int .i64 0] 28)) = W1 at *
  refine wpF_seq (wpF_of_wp ?_)
  have y0 := blkCell hS.h0 0
  have y1 := blkCell hS.h0 1
  have y2 := blkCell hS.h0 2
  have y3 := blkCell hS.h0 3
  have y4 := blkCell hS.h0 4
  simp at y0 y1 y2 y3 y4
  go_wp2_with fail
  refine (Check_any ho fi A c l _ (Kd.C_below hr hS.be) hc).mono ?_
  rintro e W2 ⟨rfl, hb⟩
  have HS2 := hid (hS.grow hb)
  have d1 : (bookErr ho fi l != 0) = false := by simpa using hv
  clear hb hS y0 y1 y2 y3 y4 hv
  go_wp2
  refine wpF_seq (wpF_seq (wpF_of_wp ?_))
  obtain ⟨x0, x1, x2, x3, xb⟩ := HS2.out
  have y0 := blkCell x0 0
  have y1 := blkCell x0 1
  have y2 := blkCell x0 2
  have y3 := blkCell x0 3
  have y4 := blkCell x0 4
  simp at y0 y1 y2 y3 y4
  clear x0 x1 x2 x3 xb
  go_wp2_with (first | (go_at_call 36; refine (numbered_any _ _ _ _ _ _).mono ?_; rintro e w' ⟨rfl, rfl⟩))
  have HBs := hid HS2.out.lt
  generalize hBb : W2.heap.size = Bb
  rw [hBb] at HBs
  clear y0 y1 y2 y3 y4 d1
  refine wpF_block ?_
  refine wpF_range2 (N := (keptOf l).ps.length) Try.func16 rfl enters68 (per_iter Bb ho fi A c l HV.out) (fun _ => rfl) (fun W => ReadsB Bb ho fi A c l W ∧ ShB w ho fi A c l n z23 0 W) (ShI w Bb ho fi A c l n) (ShR w ho fi A c l n) (fun _ _ => False) ?hI0 ?hI ?hIr ?hsz0 ?hsz ?hRd0 ?hRd ?h0 ?hstart ?round ?done ?stop ?pan
  case hI0 =>
    rintro W W' ⟨h1, h2⟩ ht
    have hB : w.heap.size ≤ (W2.alloc (.cells #[.int .i64 ho.f0, .int .i64 ho.f1, .int .i64 fi.f0, .int .i64 fi.f1, .slice A l.length c] 26)).heap.size := by have := HBs.out; simp; omega
    exact ⟨⟨ht.cells _ _ h1.box rfl, Kd.C_below hr (h2.turn hB ht).be⟩, h2.turn hB ht⟩
  case hI =>
    rintro g o k W W' ⟨h1, h2, h3, h4, h5⟩ ht
    have hB : w.heap.size ≤ (W2.alloc (.cells #[.int .i64 ho.f0, .int .i64 ho.f1, .int .i64 fi.f0, .int .i64 fi.f1, .slice A l.length c] 26)).heap.size := by have := HBs.out; simp; omega
    exact ⟨⟨ht.cells _ _ h1.box rfl, Kd.C_below hr (h2.turn hB ht).be⟩, h2.turn hB ht, ht.cells _ _ h3 h4.1, h4, h5⟩
  case hIr =>
    rintro cc W W' ⟨h1, h2, h3⟩ ht
    have hB : w.heap.size ≤ (W2.alloc (.cells #[.int .i64 ho.f0, .int .i64 ho.f1, .int .i64 fi.f0, .int .i64 fi.f1, .slice A l.length c] 26)).heap.size := by have := HBs.out; simp; omega
    exact ⟨h1, h2, h3.turn hB ht⟩
  case hsz0 => exact fun W h => by have := cell_lt (blkCell h.1.box 0); simp; omega
  case hsz => exact fun g o k W h => by have := cell_lt (blkCell h.1.box 0); simp; omega
  case hRd0 => exact fun W h => h.1
  case hRd => exact fun g o k W h => ⟨h.1, h.2.2.1⟩
  case pan => exact fun _ _ _ h => h.elim
  case h0 =>
    have hn := World.alloc_heap_new W2 (.cells #[.int .i64 ho.f0, .int .i64 ho.f1, .int .i64 fi.f0, .int .i64 fi.f1, .slice A l.length c] 26)
    rw [hBb] at hn
    have hb := HS2.out.be.alloc HS2.out.be.size (.cells #[.int .i64 ho.f0, .int .i64 ho.f1, .int .i64 fi.f0, .int .i64 fi.f1, .slice A l.length c] 26)
    exact ⟨⟨hn, Kd.C_below hr hb⟩, HS2.out.grow ((Below.refl _ _).alloc (Nat.le_refl _) _)⟩
  case hstart =>
    rintro g o W W' ⟨h1, h2⟩ ht hs hg ho hc
    exact ⟨⟨ht.cells _ _ h1.box rfl, Kd.C_below hr (h2.turn (by have := h2.lt; omega) ht).be⟩, h2.turn (by have := h2.lt; omega) ht, ho, ⟨hc, by have := h2.lt; omega⟩, fun j hj => absurd hj (by omega)⟩
  case round =>
    rintro lp g o k W hlt ⟨hR, hV, hO, hG, hJ⟩
    obtain ⟨pp, hpp⟩ : ∃ pp, (keptOf l).ps.getD k z52 = pp := ⟨_, rfl⟩
    simp only [hpp, pV]
    gi_wp2
    refine ⟨(KeepsOthers.alloc _ _), fun w₂ ht2 => ?_⟩
    have hT : Turn (Bb + 1) W w₂ := (Turn.alloc (B := Bb + 1) (by have := cell_lt (blkCell hR.box 0); omega) _).trans (by simpa [hBb] using ht2)
    have hI2 := hV.turn (by have := HBs.out; omega) hT
    have hbox := hT.cells _ _ hR.box rfl
    have hO2 := hT.cells _ _ hO hG.1
    have hpb : w₂.heap[W.heap.size]? = some (.cells #[.int .i64 pp.f0.f0, .int .i64 pp.f0.f1, .int .i64 pp.f1.f0, .int .i64 pp.f1.f1, .int .i64 pp.f2.f0, .int .i64 pp.f2.f1, .int .i64 pp.f3.f0, .int .i64 pp.f3.f1, .int .i64 pp.f4] 52 (0, 0)) := ht2.cells _ _ (World.alloc_heap_new _ _) rfl
    have hsz2 : W.heap.size + 1 ≤ w₂.heap.size := by have := cell_lt (blkCell hpb 0); omega
    generalize W.heap.size = B at *
    have q0 := blkCell hpb 0
    have q1 := blkCell hpb 1
    have q2 := blkCell hpb 2
    have q3 := blkCell hpb 3
    have q4 := blkCell hpb 4
    have q5 := blkCell hpb 5
    have q6 := blkCell hpb 6
    have q7 := blkCell hpb 7
    have q8 := blkCell hpb 8
    simp at q0 q1 q2 q3 q4 q5 q6 q7 q8
    have p0 := blkCell hI2.h1 0
    simp at p0
    have HI2 := hid hI2
    have HX := hid (And.intro hbox (And.intro hO2 (And.intro hG hJ)))
    have HP := hid hpp
    have HLT := hid hlt
    clear ht2 hT hI2 hbox hO2 hpb hR hV hO hG hJ hpp hlt
    by_cases hkn : (k : Int) = n
    · have d2 : ((k : Int) == n) = true := by simpa using hkn
      have HKN := hid hkn
      clear hkn
      gi_wp2_with fail
      clear d2
      refine (CallsIn.inRound lp (callsIn_wide.2 (share_any pp _))).mono ?_
      rintro e W5 ⟨rfl, hb⟩
      have HB5 := hid hb
      have HI5 := hid (HI2.out.grow hb)
      have c0 := blkCell HI5.out.h2 0
      have g0 := blkFrozen HI5.out.h2 0
      have c1 := blkCell HI5.out.h2 1
      have g1 := blkFrozen HI5.out.h2 1
      have c2 := blkCell HI5.out.h3 0
      have g2 := blkFrozen HI5.out.h3 0
      simp at c0 c1 c2
      clear hb q0 q1 q2 q3 q4 q5 q6 q7 q8 p0
      gi_wp2
      have hz := HI5.out.put (shareS pp) 0
      refine ⟨(keeps_of_below HB5.out).trans (((KeepsOthers.setCell _ _ _).trans (KeepsOthers.setCell _ _ _)).trans (KeepsOthers.setCell _ _ _)), rfl, ⟨by have := HKN.out; omega, by have := HKN.out; have := HLT.out; omega⟩, ?_⟩
      rw [show n.toNat = k by have := HKN.out; omega, HP.out]
      exact hz
    · have d2 : ((k : Int) == n) = false := by simpa using hkn
      have HKN := hid hkn
      clear hkn
      gi_wp2
      obtain ⟨hbox, hO2, hG, hJ⟩ := HX.out
      exact ⟨KeepsOthers.refl _, ⟨hbox, Kd.C_below hr HI2.out.be⟩, HI2.out, hO2, hG, fun j hj => by
        by_cases e : j = k
        · subst e; exact HKN.out
        · exact hJ j (by omega)⟩
  case done =>
    rintro g o D W ⟨hR, hV, hO, hG, hJ⟩ hD hle
    show wpF Try.prog 16 _ _ _ _
    rw [show shareRes ho fi l n = (z23, 7) by
      unfold shareRes
      rw [if_pos HV.out, if_neg]
      rintro ⟨h1, h2⟩
      exact hJ n.toNat (by omega) (by omega)]
    have HVV := hid hV
    have HD := hid hD
    have hsz := HBs.out
    simp only [World.size_alloc] at hle
    have HS := hid (And.intro hsz hle)
    have c0 := blkCell hV.h2 0
    have g0 := blkFrozen hV.h2 0
    have c1 := blkCell hV.h2 1
    have g1 := blkFrozen hV.h2 1
    have c2 := blkCell hV.h3 0
    have g2 := blkFrozen hV.h3 0
    simp at c0 c1 c2
    clear hR hV hO hG hJ hD hsz hle
    refine wpF_of_wp ?_
    go_wp2
    have o : ∀ {k : Nat} {ob : Obj}, k ≠ w.heap.size + 1 + 1 → k ≠ w.heap.size + 1 + 1 + 1 → W.heap[k]? = some ob → (((W.setCell ⟨w.heap.size + 1 + 1, 0, none⟩ (.int .i64 0)).setCell ⟨w.heap.size + 1 + 1, 1, none⟩ (.int .i64 0)).setCell ⟨w.heap.size + 1 + 1 + 1, 0, none⟩ (.int .i64 7)).heap[k]? = some ob :=
      fun h1 h2 hk => set_other (p := ⟨w.heap.size + 1 + 1 + 1, 0, none⟩) h2 (set_other (p := ⟨w.heap.size + 1 + 1, 1, none⟩) h1 (set_other (p := ⟨w.heap.size + 1 + 1, 0, none⟩) h1 hk))
    have hD2 := o (by have := HS.out; omega) (by have := HS.out; omega) HD.out
    have hz : ShB w ho fi A c l n z23 7 (((W.setCell ⟨w.heap.size + 1 + 1, 0, none⟩ (.int .i64 0)).setCell ⟨w.heap.size + 1 + 1, 1, none⟩ (.int .i64 0)).setCell ⟨w.heap.size + 1 + 1 + 1, 0, none⟩ (.int .i64 7)) := HVV.out.put z23 7
    clear o
    generalize (((W.setCell ⟨w.heap.size + 1 + 1, 0, none⟩ (.int .i64 0)).setCell ⟨w.heap.size + 1 + 1, 1, none⟩ (.int .i64 0)).setCell ⟨w.heap.size + 1 + 1 + 1, 0, none⟩ (.int .i64 7)) = Wz at *
    refine ⟨by simp, .inl ⟨_, _, rfl, run_takeDeferred hD2, ?_⟩⟩
    have k0 : (Wz.putObj D (.deferred none)).cell? ⟨w.heap.size + 1 + 1, 0, none⟩ = some (.int .i64 0) := blkCell ((World.putObj_heap_other (r := D) (o := .deferred none) (by have := HS.out; omega)).trans hz.h2) 0
    have k1 : (Wz.putObj D (.deferred none)).cell? ⟨w.heap.size + 1 + 1, 1, none⟩ = some (.int .i64 0) := blkCell ((World.putObj_heap_other (r := D) (o := .deferred none) (by have := HS.out; omega)).trans hz.h2) 1
    have k2 : (Wz.putObj D (.deferred none)).cell? ⟨w.heap.size + 1 + 1 + 1, 0, none⟩ = some (.int .i64 7) := blkCell ((World.putObj_heap_other (r := D) (o := .deferred none) (by have := HS.out; omega)).trans hz.h3) 0
    exact ⟨.tuple #[.agg #[.int .i64 0, .int .i64 0], .int .i64 7], by simp [results, Try.results16, go_sem, k0, k1, k2], rfl, hz.be.trans (below_putObj _ _ (by have := HS.out; omega))⟩
  case stop =>
    rintro D cc W ⟨rfl, hn, hV⟩ hD hle
    rw [show shareRes ho fi l n = (shareS ((keptOf l).ps.getD n.toNat z52), 0) by
      unfold shareRes
      rw [if_pos HV.out, if_pos hn]]
    generalize shareS ((keptOf l).ps.getD n.toNat z52) = sv at *
    have HVV := hid hV
    have HD := hid hD
    have hsz := HBs.out
    simp only [World.size_alloc] at hle
    have HS := hid (And.intro hsz hle)
    clear hV hD hsz hle
    refine wpF_of_wp ?_
    go_wp2
    have k0 := blkCell ((World.putObj_heap_other (r := D) (o := .deferred none) (by have := HS.out; omega)).trans HVV.out.h2) 0
    have k1 := blkCell ((World.putObj_heap_other (r := D) (o := .deferred none) (by have := HS.out; omega)).trans HVV.out.h2) 1
    have k2 := blkCell ((World.putObj_heap_other (r := D) (o := .deferred none) (by have := HS.out; omega)).trans HVV.out.h3) 0
    simp at k0 k1 k2
    refine ⟨by simp, .inl ⟨_, _, rfl, run_takeDeferred HD.out, ?_⟩⟩
    exact ⟨.tuple #[.agg #[.int .i64 sv.f0, .int .i64 sv.f1], .int .i64 0], by simp [results, Try.results16, go_sem, k0, k1, k2], rfl, HVV.out.be.trans (below_putObj _ _ (by have := HS.out; omega))⟩
theorem Share_any (ho fi : S23) (A : Option Addr) (c : Nat) (l : List S36) (n : Int) (w : World) (hr : Kd.C k36 w A l.length l) (hc : l.length ≤ c) :
    Calls Try.prog 16 #[.agg #[.int .i64 ho.f0, .int .i64 ho.f1, .int .i64 fi.f0, .int .i64 fi.f1, .slice A l.length c], .int .i64 n] w (RetSE (shareRes ho fi l n) w) := by
  by_cases hv : bookErr ho fi l = 0
  · exact Share_yes ho fi A c l n w hr hc hv
  · have := Share_no ho fi A c l n w hr hc hv
    rwa [show shareRes ho fi l n = (z23, bookErr ho fi l) by unfold shareRes; rw [if_neg hv]]
end Go.Proofs.Ytbmkbokkmmdjdaa
end
