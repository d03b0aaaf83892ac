import Derived.Test.YthoofldinnfpiaaA
import Derived.Test.YthoofldinnfpiaaF
import Derived.Test.YthoofldinnfpiaaR
import Derived.Shelf.Abstract
import Derived.IntWalk
namespace Go.Proofs.Ythoofldinnfpiaa
open Go.RowKit Go.Proofs.YthoofldinnfpiaaW.PrintWords Go.Proofs.YthoofldinnfpiaaW.PrintLast Go.Proofs.YthoofldinnfpiaaW.PrintMore
open Q Go.Shelf
/-- a search by halves -/
def halves (p : Int → Bool) : Nat → Int → Int → Int
  | 0, i, _ => i
  | k + 1, i, j => if i < j then (if p ((i + j) / 2) then halves p k i ((i + j) / 2) else halves p k ((i + j) / 2 + 1) j) else i
theorem halves_more (p : Int → Bool) : ∀ (k m : Nat) (i j : Int), (j - i).toNat ≤ k → (j - i).toNat ≤ m → halves p k i j = halves p m i j := by
  intro k
  induction k with
  | zero =>
    intro m i j hk hm
    cases m with
    | zero => rfl
    | succ m => simp only [halves]; rw [if_neg (by omega)]
  | succ k ih =>
    intro m i j hk hm
    cases m with
    | zero => simp only [halves]; rw [if_neg (by omega)]
    | succ m =>
      simp only [halves]
      by_cases h : i < j
      · rw [if_pos h, if_pos h]
        cases p ((i + j) / 2) with
        | true => exact ih m _ _ (by omega) (by omega)
        | false => exact ih m _ _ (by omega) (by omega)
      · rw [if_neg h, if_neg h]
def search (p : Int → Bool) (i j : Int) : Int := halves p (j - i).toNat i j
theorem search_end {p : Int → Bool} {i j : Int} (h : ¬ i < j) : search p i j = i := by
  unfold search
  rw [show (j - i).toNat = 0 by omega]; rfl
theorem search_yes {p : Int → Bool} {i j : Int} (h : i < j) (hp : p ((i + j) / 2) = true) : search p i j = search p i ((i + j) / 2) := by
  unfold search
  rw [show (j - i).toNat = (j - i).toNat - 1 + 1 by omega]
  simp only [halves]
  rw [if_pos h, hp, if_pos rfl]
  exact halves_more _ _ _ _ _ (by omega) (by omega)
theorem search_no {p : Int → Bool} {i j : Int} (h : i < j) (hp : p ((i + j) / 2) = false) : search p i j = search p ((i + j) / 2 + 1) j := by
  unfold search
  rw [show (j - i).toNat = (j - i).toNat - 1 + 1 by omega]
  simp only [halves]
  rw [if_pos h, hp, if_neg (by simp)]
  exact halves_more _ _ _ _ _ (by omega) (by omega)
/-- r is where p begins to hold, as far as a search by halves sees it -/
def Begins (p : Int → Bool) (lo hi r : Int) : Prop := lo ≤ r ∧ r ≤ hi ∧ (lo < r → p (r - 1) = false) ∧ (r < hi → p r = true)
theorem search_begins (p : Int → Bool) (lo hi : Int) : ∀ (d : Nat) (i j : Int), (j - i).toNat ≤ d → lo ≤ i → i ≤ j → j ≤ hi → (lo < i → p (i - 1) = false) → (j < hi → p j = true) → Begins p lo hi (search p i j) := by
  intro d
  induction d with
  | zero =>
    intro i j hd h1 h2 h3 h4 h5
    rw [search_end (by omega)]
    obtain rfl : i = j := by omega
    exact ⟨h1, h3, h4, h5⟩
  | succ d ih =>
    intro i j hd h1 h2 h3 h4 h5
    by_cases h : i < j
    · cases hp : p ((i + j) / 2) with
      | true => rw [search_yes h hp]; exact ih _ _ (by omega) h1 (by omega) (by omega) h4 (fun _ => hp)
      | false => rw [search_no h hp]; exact ih _ _ (by omega) (by omega) (by omega) h3 (fun _ => by rw [Int.add_sub_cancel]; exact hp) h5
    · rw [search_end h]
      obtain rfl : i = j := by omega
      exact ⟨h1, h3, h4, h5⟩
theorem search_bounds (p : Int → Bool) {i j : Int} (h : i ≤ j) : i ≤ search p i j ∧ search p i j ≤ j := by
  have := search_begins p i j _ i j (Nat.le_refl _) (Int.le_refl _) h (Int.le_refl _) (fun h => absurd h (by omega)) (fun h => absurd h (by omega))
  exact ⟨this.1, this.2.1⟩
/-- a function value that answers a bool, whatever has been made since w -/
def Asks (g : Nat) (lb : Array Value) (p : Int → Bool) (lo hi : Int) (w : World) : Prop :=
  ∀ (W : World) (x : Int), Below w.heap.size w W → lo ≤ x → x < hi → Calls Try.prog g (#[.int .i64 x] ++ lb) W fun e w' => e = .returned (.bool (p x)) ∧ Below W.heap.size W w'
def ReturnsInt (r : Int) (w : World) (e : Ending) (w' : World) : Prop := e = .returned (.int .i64 r) ∧ Below w.heap.size w w'
set_option maxRecDepth 100000 in
theorem search_any (g : Nat) (lb : Array Value) (eg : ∀ args w, (callFunc g args).run Try.prog w = .ok (.enter g args) w) (p : Int → Bool) (n : Int) (h0 : 0 ≤ n) (h1 : n ≤ 1000000000) (w : World) (hp : Asks g lb p 0 n w) :
    Calls Try.prog 109 #[.int .i64 n, .func (.func g) #[] lb] w (ReturnsInt (search p 0 n) w) := by
  have HP : Hid (Asks g lb p 0 n w) := hp
  clear hp
  go_enter Try.func109, Try.ntmps109
  go_wp2
  go_loopw [5, 6] (fun v5 v6 wr => ∃ i j : Int, 0 ≤ i ∧ i ≤ j ∧ j ≤ n ∧ v5 = .int .i64 i ∧ v6 = .int .i64 j ∧ Hid (Below w.heap.size w wr) ∧ Hid (search p 0 n = search p i j)) (fun v5 v6 _ => (intOf v6 - intOf v5).toNat)
  case atStart => exact ⟨0, n, by omega, by omega, by omega, rfl, rfl, Below.refl _ _, rfl⟩
  case round =>
    obtain ⟨i, j, hi, hij, hj, rfl, rfl, HB, HI⟩ := hrel
    by_cases hlt : i < j
    · go_wp2_with fail
      refine Calls.mono (HP.out _ _ HB.out (by omega) (by omega)) ?_
      rintro e w' ⟨rfl, hb⟩
      have HB' : Hid (Below w.heap.size w w') := HB.out.trans (hb.mono HB.out.size)
      clear hb
      cases hpv : p ((i + j) / 2) with
      | true =>
        have HV := hid hpv
        clear hpv
        go_wp2
        go_roundw
        case rel => exact ⟨i, (i + j) / 2, by omega, by omega, by omega, rfl, rfl, HB', HI.out.trans (search_yes hlt HV.out)⟩
        case measure => simp [intOf]; omega
      | false =>
        have HV := hid hpv
        clear hpv
        go_wp2
        go_roundw
        case rel => exact ⟨(i + j) / 2 + 1, j, by omega, by omega, by omega, rfl, rfl, HB', HI.out.trans (search_no hlt HV.out)⟩
        case measure => simp [intOf]; omega
    · go_wp2
      go_ret
      exact ⟨ret_int (by rw [HI.out, search_end (by omega)]), HB.out⟩
theorem first1_any (g : Nat) (lb : Array Value) (eg : ∀ args w, (callFunc g args).run Try.prog w = .ok (.enter g args) w) (p : Int → Bool) (lo x : Int) (Bf Bl : Nat) (W : World)
    (hf : W.cell? ⟨Bf, 0, none⟩ = some (.func (.func g) #[] lb)) (hl : W.cell? ⟨Bl, 0, none⟩ = some (.int .i64 lo)) (hlo : 0 ≤ lo) (hlo' : lo ≤ 1000000000) (hx0 : 0 ≤ x) (hx : x ≤ 1000000000)
    (hp : Calls Try.prog g (#[.int .i64 (lo + x)] ++ lb) W fun e w' => e = .returned (.bool (p (lo + x))) ∧ Below W.heap.size W w') :
    Calls Try.prog 110 #[.int .i64 x, .pointer (some ⟨Bf, 0, none⟩), .pointer (some ⟨Bl, 0, none⟩)] W fun e w' => e = .returned (.bool (p (lo + x))) ∧ Below W.heap.size W w' := by
  have HP := hid hp
  clear hp
  go_enter Try.func110, Try.ntmps110
  go_wp2_with fail
  refine Calls.mono HP.out ?_
  rintro e w' ⟨rfl, hb⟩
  go_wp2
  go_ret
  exact ⟨rfl, hb⟩
theorem enters110 : ∀ args w, (callFunc 110 args).run Try.prog w = .ok (.enter 110 args) w := enters_of Try.func110 (by kernel_rfl) rfl
theorem search110 (g : Nat) (lb : Array Value) (eg : ∀ args w, (callFunc g args).run Try.prog w = .ok (.enter g args) w) (p : Int → Bool) (lo hi : Int) (w : World) (h0 : 0 ≤ lo) (h1 : lo ≤ hi) (h2 : hi ≤ 100000000) (hp : Asks g lb p lo (hi + 1) w)
    (Bf Bl : Nat) (W : World) (hf : W.cell? ⟨Bf, 0, none⟩ = some (.func (.func g) #[] lb)) (hl : W.cell? ⟨Bl, 0, none⟩ = some (.int .i64 lo)) (hb : Below w.heap.size w W) (hBf : Bf < W.heap.size) (hBl : Bl < W.heap.size) :
    Calls Try.prog 109 #[.int .i64 (hi - lo + 1), .func (.func 110) #[] #[.pointer (some ⟨Bf, 0, none⟩), .pointer (some ⟨Bl, 0, none⟩)]] W (ReturnsInt (search (fun x => p (lo + x)) 0 (hi - lo + 1)) W) := by
  refine search_any 110 _ enters110 (fun x => p (lo + x)) _ (by omega) (by omega) _ fun W' x hW h0 h1 => ?_
  refine first1_any g lb eg p lo x Bf Bl W' ((hW.cell (p := ⟨Bf, 0, none⟩) hBf).trans hf) ((hW.cell (p := ⟨Bl, 0, none⟩) hBl).trans hl) (by omega) (by omega) (by omega) (by omega) (hp _ _ (hb.trans (hW.mono hb.size)) (by omega) (by omega))
/-- where p begins in lo .. hi; hi + 1 if nowhere -/
def firstOf (p : Int → Bool) (lo hi : Int) : Int := lo + search (fun x => p (lo + x)) 0 (hi - lo + 1)
theorem firstOf_begins (p : Int → Bool) {lo hi : Int} (h : lo ≤ hi + 1) : Begins p lo (hi + 1) (firstOf p lo hi) := by
  obtain ⟨a, b, c, d⟩ := search_begins (fun x => p (lo + x)) 0 (hi - lo + 1) _ 0 (hi - lo + 1) (Nat.le_refl _) (by omega) (by omega) (by omega) (fun h => absurd h (by omega)) (fun h => absurd h (by omega))
  refine ⟨by unfold firstOf; omega, by unfold firstOf; omega, fun h => ?_, fun h => d (by unfold firstOf at h; omega)⟩
  have := c (by unfold firstOf at h; omega)
  rw [show firstOf p lo hi - 1 = lo + (search (fun x => p (lo + x)) 0 (hi - lo + 1) - 1) by unfold firstOf; omega]; exact this
theorem mixed : Try.prog.follows .mixedOrders = true := by kernel_rfl
theorem makeFunc_any : ∀ (fn : Fn) (first cap : Array Value) (w : World), (Instr.makeFunc fn first cap).run Try.prog w = .ok (.func fn first cap) w := fun _ _ _ _ => rfl
set_option maxRecDepth 100000 in
theorem first_any (g : Nat) (lb : Array Value) (eg : ∀ args w, (callFunc g args).run Try.prog w = .ok (.enter g args) w) (p : Int → Bool) (lo hi : Int) (w : World) (h0 : 0 ≤ lo) (h1 : lo ≤ hi) (h2 : hi ≤ 100000000) (hp : Asks g lb p lo (hi + 1) w) :
    Calls Try.prog 85 #[.int .i64 lo, .int .i64 hi, .func (.func g) #[] lb] w (ReturnsInt (firstOf p lo hi) w) := by
  have HB := Below.refl w.heap.size w
  have HC := hid fun Bf Bl W a b c d e => search110 g lb eg p lo hi w h0 h1 h2 hp Bf Bl W a b c d e
  have hs := search_bounds (fun x => p (lo + x)) (i := 0) (j := hi - lo + 1) (by omega)
  clear hp eg
  go_enter Try.func85, Try.ntmps85
  go_wp2_with fail
  refine wp_flow [[], [], [], [1, 2], [3, 1, 2], [], [4, 3, 1, 2, 5], [0, 6, 4, 3, 1, 2, 5], [7, 0, 6, 4, 3, 1, 2, 5]] 9
    (fun W => W.cell? ⟨w.heap.size, 0, none⟩ = some (.int .i64 lo) ∧ W.cell? ⟨w.heap.size + 1, 0, none⟩ = some (.func (.func g) #[] lb) ∧ w.heap.size + 2 ≤ W.heap.size ∧ Below w.heap.size w W)
    { tmps := #[.int .i64 lo, .int .i64 hi, .func (.func g) #[] lb, .pointer (some ⟨w.heap.size, 0, none⟩), undef, .pointer (some ⟨w.heap.size + 1, 0, none⟩), .int .i64 (firstOf p lo hi),
        .int .i64 lo, .int .i64 hi, .int .i64 lo, .int .i64 (hi - lo), .int .i64 (hi - lo + 1), .func (.func 110) #[] #[.pointer (some ⟨w.heap.size + 1, 0, none⟩), .pointer (some ⟨w.heap.size, 0, none⟩)], .int .i64 (search (fun x => p (lo + x)) 0 (hi - lo + 1)), .int .i64 (firstOf p lo hi)], defers := [] }
    mixed (by kernel_rfl) rfl (Ahead.of [0, 1, 2, 3, 4, 5] rfl rfl (by kernel_rfl) (by simp)) ?_ (AllFlow.ops rfl ?_) rfl ?_
  · exact ⟨by go_simp, by go_simp, by simp, ((HB.alloc (Nat.le_refl _) _).alloc (by simp) _).drew⟩
  · refine ⟨?_, ?_, ?_, ?_, ?_, ?_, ?_, ?_, ?_, trivial⟩
    · exact .val 7 _ rfl rfl fun W ⟨c1, c2, _, _⟩ => by go_simp
    · exact .val 8 _ rfl rfl fun W ⟨c1, c2, _, _⟩ => by go_simp
    · exact .val 9 _ rfl rfl fun W ⟨c1, c2, _, _⟩ => by go_simp
    · exact .val 10 _ rfl rfl fun W ⟨c1, c2, _, _⟩ => by go_simp; exact IntWalk.i64_in _ (by omega)
    · exact .val 11 _ rfl rfl fun W ⟨c1, c2, _, _⟩ => by go_simp; exact IntWalk.i64_in _ (by omega)
    · exact .val 12 _ rfl rfl fun W ⟨c1, c2, _, _⟩ => by go_simp
    · refine .call 13 _ 109 #[.int .i64 (hi - lo + 1), .func (.func 110) #[] #[.pointer (some ⟨w.heap.size + 1, 0, none⟩), .pointer (some ⟨w.heap.size, 0, none⟩)]] rfl rfl (fun W ⟨c1, c2, _, _⟩ => by go_simp) fun W ⟨c1, c2, c3, c4⟩ => ?_
      refine (HC.out _ _ W c2 c1 c4 (by omega) (by omega)).mono ?_
      rintro e w' ⟨rfl, hb⟩
      exact ⟨rfl, (hb.cell (p := ⟨_, 0, none⟩) (by simp; omega)).trans c1, (hb.cell (p := ⟨_, 0, none⟩) (by simp; omega)).trans c2, by have := hb.size; omega, c4.trans (hb.mono c4.size)⟩
    · exact .val 14 _ rfl rfl fun W ⟨c1, c2, _, _⟩ => by go_simp; unfold firstOf; exact IntWalk.i64_in _ (by omega)
    · exact .val 6 _ rfl rfl fun W ⟨c1, c2, _, _⟩ => by go_simp
  · rintro W ⟨_, _, _, hb⟩
    clear HC hs
    show Exit.then _ _ .normal _ _
    go_wp2
    go_ret
    exact ⟨rfl, hb⟩
end Go.Proofs.Ythoofldinnfpiaa
