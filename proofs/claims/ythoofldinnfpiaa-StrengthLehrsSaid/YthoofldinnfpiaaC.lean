import Derived.Test.YthoofldinnfpiaaB
import Derived.TacticsInMore
import Derived.OwnWalkIn
import Derived.LoopNIn
import Derived.LoopIn
import Derived.WalkSmall
namespace Go.Proofs.Ythoofldinnfpiaa
open Go.RowKit Go.Proofs.YthoofldinnfpiaaW.PrintWords Go.Proofs.YthoofldinnfpiaaW.PrintLast Go.Proofs.YthoofldinnfpiaaW.PrintMore
open Q Go.Shelf
theorem wide_depth : Fence.wide.depth = none := rfl
attribute [local go_sem] Oper.semAt_some wide_depth
def ringV (r : S82) : Value := .agg #[.int .i64 r.f0.f0, .int .i64 r.f0.f1, .int .i64 r.f1.f0, .int .i64 r.f1.f1, .int .i64 r.f2.f0, .int .i64 r.f2.f1, .int .i64 r.f3.f0, .int .i64 r.f3.f1, .int .i64 r.f4.f0, .int .i64 r.f4.f1]
def ringC (r : S82) : Array Value := #[.int .i64 r.f0.f0, .int .i64 r.f0.f1, .int .i64 r.f1.f0, .int .i64 r.f1.f1, .int .i64 r.f2.f0, .int .i64 r.f2.f1, .int .i64 r.f3.f0, .int .i64 r.f3.f1, .int .i64 r.f4.f0, .int .i64 r.f4.f1]
/-- what an iterator over the rings reads -/
structure Reads (Bb : Nat) (A : Option Addr) (c : Nat) (l : List S82) (fl tg : Int) (W : World) : Prop where
  box : W.heap[Bb]? = some (.cells #[.slice A l.length c, .int .i64 fl, .int .i64 tg] 24 (0, 0))
  row : Kd.C k82 W A l.length l
theorem blkCell {W : World} {b : Nat} {cs : Array Value} {t : TypeId} (h : W.heap[b]? = some (.cells cs t (0, 0))) (j : Nat) : W.cell? ⟨b, j, none⟩ = cs[j]? := by
  simp [World.cell?, h]
theorem rd82 {l : List S82} {k : Nat} (h : k < l.length) : rd_T82 l (k : Int) = l[k] := by
  simp [rd_T82, List.getD, h]
set_option maxRecDepth 100000 in
set_option maxHeartbeats 1000000 in
theorem rings_iter (Bb : Nat) (A : Option Addr) (c : Nat) (l : List S82) (fl tg : Int) (hl : l.length ≤ 1000000000) :
    Iter Try.prog 99 #[.pointer (some ⟨Bb, 0, none⟩)] (fun i => #[.int .i64 i, ringV (l.getD i z82)]) l.length (Reads Bb A c l fl tg) := by
  intro lp J R W hJ hRd hY hN h0
  have hu := Try.underlying82
  have hu2 := Try.underlying24
  refine callsIn_of_wp Try.func99 rfl trivial ?_ rfl
  simp only [Try.ntmps99, List.size_toArray, List.length_cons, List.length_nil, Nat.reduceAdd, Nat.reduceSub, Array.replicate_succ, Array.replicate_zero, List.push_toArray, List.append_toArray, List.nil_append, List.cons_append]
  have hb := blkCell (hRd 0 W h0).box 0
  have HJ := hid hJ
  have HR := hid hRd
  have HY := hid hY
  have HN := hid hN
  clear hJ hRd hY hN
  gi_wp2
  clear hb
  gi_loopw [8] (fun v8 wr => ∃ k : Nat, k ≤ l.length ∧ v8 = .int .i64 k ∧ J k wr) (fun v8 _ => l.length - (intOf v8).toNat)
  case atStart => exact ⟨0, by omega, rfl, h0⟩
  case round =>
    obtain ⟨k, hk, rfl, hj⟩ := hrel
    by_cases hlt : k < l.length
    · have hc := at_T82 (HR.out k wr hj).row k (by omega) (by omega)
      rw [rd82 hlt] at hc
      simp only [Int.toNat_natCast] at hc
      obtain ⟨ad, rfl, c0, c1, c2, c3, c4, c5, c6, c7, c8, c9⟩ := hc
      obtain ⟨fn, tmps, assign, body, hy, hR⟩ := HY.out k (wr.alloc (.cells (ringC l[k]) 82)) hlt (HJ.out _ _ _ hj (Turn.alloc (Nat.le_refl _) _))
      have hg : l.getD k z82 = l[k] := by simp [List.getD, hlt]
      simp only [ringC, ringV, hg] at hy
      simp only [ringC] at hR
      have HRR := hid hR
      clear hR hg
      gi_wp2
      refine HRR.out.mono ?_
      rintro e W3 (⟨rfl, hJ3⟩ | ⟨rfl, hR3⟩ | ⟨ch, rfl, hR3⟩)
      · gi_wp2
        go_roundw
        case rel => exact ⟨k + 1, by omega, by go_num, hJ3⟩
        case measure => simp [intOf]; omega
      · gi_wp2
        refine bodyPost_ret (results_none rfl _ _ _) rfl ?_
        exact hR3
      · exact ⟨rfl, hR3⟩
    · obtain rfl : k = l.length := by omega
      have HE := hid (HN.out wr hj)
      gi_wp2
      go_end0
      exact HE.out
end Go.Proofs.Ythoofldinnfpiaa
