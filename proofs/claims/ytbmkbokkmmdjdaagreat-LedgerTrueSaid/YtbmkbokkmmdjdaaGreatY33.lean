-- N51 N23 D1 D12 J4 (wip/pack9.py)
import Derived.Test.YtbmkbokkmmdjdaaGreatY2
import Derived.Test.YtbmkbokkmmdjdaaGreatY20
import Derived.Test.YtbmkbokkmmdjdaaGreatY28
import Derived.Test.YtbmkbokkmmdjdaaGreatY30
section
namespace Go.Proofs.YtbmkbokkmmdjdaaGreat.Q
open Go.RowKit Go.Proofs.YtbmkbokkmmdjdaaGreatW.PrintWords Go.Proofs.YtbmkbokkmmdjdaaGreatW.PrintLast Go.Proofs.YtbmkbokkmmdjdaaGreatW.PrintMore
attribute [local go_sem] max2_int min2_int max_two min_two max_three min_three max_four min_four   -- for this text's walks alone
set_option linter.unusedVariables false
set_option linter.unusedSimpArgs false

attribute [local go_sem high] eqA23
def culletlaw09_k.f (a0 : Int) (a1 : Int) : Option (Int × Int) := some (a0, a1)
set_option maxHeartbeats 8000000 in
set_option maxRecDepth 100000 in
theorem culletlaw09_k.calls (a0 : Int) (a1 : Int) (r1 : Int) (r2 : Int) (w : World) (h : culletlaw09_k.f a0 a1 = some (r1, r2)) :
    Calls Tryz.prog 51 #[.int .i64 a0, .int .i64 a1] w fun e w' => e = .returned (.agg #[.int .i64 r1, .int .i64 r2]) ∧ Below w.heap.size w w' := by
  have hu23 := Tryz.underlying23
  have HB := Aside0.mk (Below.refl w.heap.size w)
  have H : (some (a0, a1)) = some (r1, r2) := h
  clear h
  simp only [Option.some.injEq, Prod.mk.injEq] at H
  obtain ⟨rfl, rfl⟩ := H
  go_enter Tryz.func51, Tryz.ntmps51
  go_wp2_with (first | ((with_reducible refine gate_dst (N := 4) rfl ?_); refine box_event ?hg (N := 4) ?hd (cs := #[.int .i64 0, .int .i64 0]) (t := 23) ?hr ?_; (case hd => rfl); (case hg => rfl); (case hr => first | (go_simp; done) | (go_simp; rfl)); intro gb103 hg w3 hbox hb; have n0_ := Aside0.mk (below_step (by repeat (first | (with_reducible first | exact HB.out | apply below_alloc | apply pw_below_drewN | apply below_drew1) | exact HB.out)) hb); have n1_ := Aside0.mk (hbox); have n2_ := Aside0.mk ((by rw [hg]; exact (below_size (by repeat (first | (with_reducible first | exact HB.out | apply below_alloc | apply pw_below_drewN | apply below_drew1) | exact HB.out))) : w.heap.size ≤ gb103)); have n3_ := Aside0.mk ((by rw [hg]; exact (below_size (by repeat (first | (with_reducible first | exact HB.out | apply below_alloc | apply pw_below_drewN | apply below_drew1) | exact HB.out))) : w.heap.size ≤ gb103)); clear HB; have HB := n0_; have BK103 := n1_; have GW103 := n2_; have GE103 := n3_; clear n0_ n1_ n2_ n3_; clear hb hbox hg; have hcz4_0 : w3.cell? ⟨gb103, 0, none⟩ = some (.int .i64 0) := (blk_cell BK103.out 0).trans rfl; have hcz4_1 : w3.cell? ⟨gb103, 1, none⟩ = some (.int .i64 0) := (blk_cell BK103.out 1).trans rfl; have hfz4_0 := blk_frozen BK103.out 0; have hfz4_1 := blk_frozen BK103.out 1))
  refine bodyPost_ret (results_cell_row rfl _ _ gb103 23 #[.int .i64 a0, .int .i64 a1] (0, 0) _ rfl (by (with_reducible repeat (first | refine blk_drewN ?_ _ | refine blk_drew ?_ | refine blk_alloc ?_ _)); refine blk_put (cs := #[.int .i64 a0, .int .i64 0]) ?_ 1 _ rfl; (with_reducible repeat (first | refine blk_drewN ?_ _ | refine blk_drew ?_ | refine blk_alloc ?_ _)); refine blk_put (cs := #[.int .i64 0, .int .i64 0]) ?_ 0 _ rfl; (with_reducible repeat (first | refine blk_drewN ?_ _ | refine blk_drew ?_ | refine blk_alloc ?_ _)); exact BK103.out) Tryz.underlying23 rfl (by kernel_rfl)) rfl ?_
  exact ⟨by first | rfl | (simp [errW_none, errW_some] <;> rfl) | (simp [*, errW_none, errW_some] <;> rfl), by repeat (first | (with_reducible first | exact HB.out | apply below_alloc | apply pw_below_drewN | apply below_drew1 | refine below_set ?_ GE103.out) | exact HB.out)⟩

end Go.Proofs.YtbmkbokkmmdjdaaGreat.Q
end
section
namespace Go.Proofs.YtbmkbokkmmdjdaaGreat.Q
open Go.RowKit Go.Proofs.YtbmkbokkmmdjdaaGreatW.PrintWords Go.Proofs.YtbmkbokkmmdjdaaGreatW.PrintLast Go.Proofs.YtbmkbokkmmdjdaaGreatW.PrintMore
attribute [local go_sem] max2_int min2_int max_two min_two max_three min_three max_four min_four   -- for this text's walks alone
set_option linter.unusedVariables false
set_option linter.unusedSimpArgs false

attribute [local go_sem high] eqA23
def culletlaw09_year.f  : Option (Int × Int × Int × Int × (List (S93))) := (culletlaw09_k.f 900 1300).bind fun bt105 => ((culletlaw09_k.f 1000 1000).bind fun bt107 => ((culletlaw09_k.f 500 500).bind fun bt109 => ((culletlaw09_k.f 600 700).bind fun bt111 => ((culletlaw09_k.f 200 210).bind fun bt113 => ((culletlaw09_k.f 190 200).bind fun bt115 => ((culletlaw09_k.f 180 180).bind fun bt117 => (some (bt105.1, bt105.2, bt107.1, bt107.2, (([(⟨0, 1, 0, 0, (⟨bt109.1, bt109.2⟩ : S23), (⟨bt111.1, bt111.2⟩ : S23), (⟨0, 0⟩ : S23), 0⟩ : S93), (⟨0, 2, 0, 0, (⟨bt113.1, bt113.2⟩ : S23), (⟨0, 0⟩ : S23), (⟨0, 0⟩ : S23), 0⟩ : S93), (⟨0, 3, 0, 0, (⟨bt115.1, bt115.2⟩ : S23), (⟨0, 0⟩ : S23), (⟨0, 0⟩ : S23), 0⟩ : S93), (⟨0, 4, 0, 7, (⟨bt117.1, bt117.2⟩ : S23), (⟨0, 0⟩ : S23), (⟨0, 0⟩ : S23), 0⟩ : S93), (⟨0, 6, 0, 0, (⟨0, 0⟩ : S23), (⟨0, 0⟩ : S23), (⟨0, 0⟩ : S23), 0⟩ : S93)] : List (S93)))))))))))
set_option maxHeartbeats 8000000 in
set_option maxRecDepth 100000 in
theorem culletlaw09_year.calls  (r1 : Int) (r2 : Int) (r3 : Int) (r4 : Int) (r5 : List (S93)) (w : World) (h : culletlaw09_year.f  = some (r1, r2, r3, r4, r5)) :
    Calls Tryz.prog 23 #[] w fun e w' => ∃ v4_ : Value, e = .returned (.agg #[.int .i64 r1, .int .i64 r2, .int .i64 r3, .int .i64 r4, v4_]) ∧ Kd.R k93 93 w' w.heap.size (fun _ => True) v4_ r5 ∧ Below w.heap.size w w' := by
  have hu26 := Tryz.underlying26
  have hu93 := Tryz.underlying93
  have HB := Aside0.mk (Below.refl w.heap.size w)
  have H : ((culletlaw09_k.f 900 1300).bind fun bt105 => ((culletlaw09_k.f 1000 1000).bind fun bt107 => ((culletlaw09_k.f 500 500).bind fun bt109 => ((culletlaw09_k.f 600 700).bind fun bt111 => ((culletlaw09_k.f 200 210).bind fun bt113 => ((culletlaw09_k.f 190 200).bind fun bt115 => ((culletlaw09_k.f 180 180).bind fun bt117 => (some (bt105.1, bt105.2, bt107.1, bt107.2, (([(⟨0, 1, 0, 0, (⟨bt109.1, bt109.2⟩ : S23), (⟨bt111.1, bt111.2⟩ : S23), (⟨0, 0⟩ : S23), 0⟩ : S93), (⟨0, 2, 0, 0, (⟨bt113.1, bt113.2⟩ : S23), (⟨0, 0⟩ : S23), (⟨0, 0⟩ : S23), 0⟩ : S93), (⟨0, 3, 0, 0, (⟨bt115.1, bt115.2⟩ : S23), (⟨0, 0⟩ : S23), (⟨0, 0⟩ : S23), 0⟩ : S93), (⟨0, 4, 0, 7, (⟨bt117.1, bt117.2⟩ : S23), (⟨0, 0⟩ : S23), (⟨0, 0⟩ : S23), 0⟩ : S93), (⟨0, 6, 0, 0, (⟨0, 0⟩ : S23), (⟨0, 0⟩ : S23), (⟨0, 0⟩ : S23), 0⟩ : S93)] : List (S93)))))))))))) = some (r1, r2, r3, r4, r5) := h
  clear h
  replace H := Option.bind_eq_some_iff.mp H
  obtain ⟨⟨t105, t106⟩, A10, H⟩ := H
  replace H : ((culletlaw09_k.f 1000 1000).bind fun bt107 => ((culletlaw09_k.f 500 500).bind fun bt109 => ((culletlaw09_k.f 600 700).bind fun bt111 => ((culletlaw09_k.f 200 210).bind fun bt113 => ((culletlaw09_k.f 190 200).bind fun bt115 => ((culletlaw09_k.f 180 180).bind fun bt117 => (some (t105, t106, bt107.1, bt107.2, (([(⟨0, 1, 0, 0, (⟨bt109.1, bt109.2⟩ : S23), (⟨bt111.1, bt111.2⟩ : S23), (⟨0, 0⟩ : S23), 0⟩ : S93), (⟨0, 2, 0, 0, (⟨bt113.1, bt113.2⟩ : S23), (⟨0, 0⟩ : S23), (⟨0, 0⟩ : S23), 0⟩ : S93), (⟨0, 3, 0, 0, (⟨bt115.1, bt115.2⟩ : S23), (⟨0, 0⟩ : S23), (⟨0, 0⟩ : S23), 0⟩ : S93), (⟨0, 4, 0, 7, (⟨bt117.1, bt117.2⟩ : S23), (⟨0, 0⟩ : S23), (⟨0, 0⟩ : S23), 0⟩ : S93), (⟨0, 6, 0, 0, (⟨0, 0⟩ : S23), (⟨0, 0⟩ : S23), (⟨0, 0⟩ : S23), 0⟩ : S93)] : List (S93))))))))))) = some (r1, r2, r3, r4, r5) := H
  have A1 := Aside0.mk A10
  clear A10
  replace H := Option.bind_eq_some_iff.mp H
  obtain ⟨⟨t107, t108⟩, A20, H⟩ := H
  replace H : ((culletlaw09_k.f 500 500).bind fun bt109 => ((culletlaw09_k.f 600 700).bind fun bt111 => ((culletlaw09_k.f 200 210).bind fun bt113 => ((culletlaw09_k.f 190 200).bind fun bt115 => ((culletlaw09_k.f 180 180).bind fun bt117 => (some (t105, t106, t107, t108, (([(⟨0, 1, 0, 0, (⟨bt109.1, bt109.2⟩ : S23), (⟨bt111.1, bt111.2⟩ : S23), (⟨0, 0⟩ : S23), 0⟩ : S93), (⟨0, 2, 0, 0, (⟨bt113.1, bt113.2⟩ : S23), (⟨0, 0⟩ : S23), (⟨0, 0⟩ : S23), 0⟩ : S93), (⟨0, 3, 0, 0, (⟨bt115.1, bt115.2⟩ : S23), (⟨0, 0⟩ : S23), (⟨0, 0⟩ : S23), 0⟩ : S93), (⟨0, 4, 0, 7, (⟨bt117.1, bt117.2⟩ : S23), (⟨0, 0⟩ : S23), (⟨0, 0⟩ : S23), 0⟩ : S93), (⟨0, 6, 0, 0, (⟨0, 0⟩ : S23), (⟨0, 0⟩ : S23), (⟨0, 0⟩ : S23), 0⟩ : S93)] : List (S93)))))))))) = some (r1, r2, r3, r4, r5) := H
  have A2 := Aside0.mk A20
  clear A20
  replace H := Option.bind_eq_some_iff.mp H
  obtain ⟨⟨t109, t110⟩, A30, H⟩ := H
  replace H : ((culletlaw09_k.f 600 700).bind fun bt111 => ((culletlaw09_k.f 200 210).bind fun bt113 => ((culletlaw09_k.f 190 200).bind fun bt115 => ((culletlaw09_k.f 180 180).bind fun bt117 => (some (t105, t106, t107, t108, (([(⟨0, 1, 0, 0, (⟨t109, t110⟩ : S23), (⟨bt111.1, bt111.2⟩ : S23), (⟨0, 0⟩ : S23), 0⟩ : S93), (⟨0, 2, 0, 0, (⟨bt113.1, bt113.2⟩ : S23), (⟨0, 0⟩ : S23), (⟨0, 0⟩ : S23), 0⟩ : S93), (⟨0, 3, 0, 0, (⟨bt115.1, bt115.2⟩ : S23), (⟨0, 0⟩ : S23), (⟨0, 0⟩ : S23), 0⟩ : S93), (⟨0, 4, 0, 7, (⟨bt117.1, bt117.2⟩ : S23), (⟨0, 0⟩ : S23), (⟨0, 0⟩ : S23), 0⟩ : S93), (⟨0, 6, 0, 0, (⟨0, 0⟩ : S23), (⟨0, 0⟩ : S23), (⟨0, 0⟩ : S23), 0⟩ : S93)] : List (S93))))))))) = some (r1, r2, r3, r4, r5) := H
  have A3 := Aside0.mk A30
  clear A30
  replace H := Option.bind_eq_some_iff.mp H
  obtain ⟨⟨t111, t112⟩, A40, H⟩ := H
  replace H : ((culletlaw09_k.f 200 210).bind fun bt113 => ((culletlaw09_k.f 190 200).bind fun bt115 => ((culletlaw09_k.f 180 180).bind fun bt117 => (some (t105, t106, t107, t108, (([(⟨0, 1, 0, 0, (⟨t109, t110⟩ : S23), (⟨t111, t112⟩ : S23), (⟨0, 0⟩ : S23), 0⟩ : S93), (⟨0, 2, 0, 0, (⟨bt113.1, bt113.2⟩ : S23), (⟨0, 0⟩ : S23), (⟨0, 0⟩ : S23), 0⟩ : S93), (⟨0, 3, 0, 0, (⟨bt115.1, bt115.2⟩ : S23), (⟨0, 0⟩ : S23), (⟨0, 0⟩ : S23), 0⟩ : S93), (⟨0, 4, 0, 7, (⟨bt117.1, bt117.2⟩ : S23), (⟨0, 0⟩ : S23), (⟨0, 0⟩ : S23), 0⟩ : S93), (⟨0, 6, 0, 0, (⟨0, 0⟩ : S23), (⟨0, 0⟩ : S23), (⟨0, 0⟩ : S23), 0⟩ : S93)] : List (S93)))))))) = some (r1, r2, r3, r4, r5) := H
  have A4 := Aside0.mk A40
  clear A40
  replace H := Option.bind_eq_some_iff.mp H
  obtain ⟨⟨t113, t114⟩, A50, H⟩ := H
  replace H : ((culletlaw09_k.f 190 200).bind fun bt115 => ((culletlaw09_k.f 180 180).bind fun bt117 => (some (t105, t106, t107, t108, (([(⟨0, 1, 0, 0, (⟨t109, t110⟩ : S23), (⟨t111, t112⟩ : S23), (⟨0, 0⟩ : S23), 0⟩ : S93), (⟨0, 2, 0, 0, (⟨t113, t114⟩ : S23), (⟨0, 0⟩ : S23), (⟨0, 0⟩ : S23), 0⟩ : S93), (⟨0, 3, 0, 0, (⟨bt115.1, bt115.2⟩ : S23), (⟨0, 0⟩ : S23), (⟨0, 0⟩ : S23), 0⟩ : S93), (⟨0, 4, 0, 7, (⟨bt117.1, bt117.2⟩ : S23), (⟨0, 0⟩ : S23), (⟨0, 0⟩ : S23), 0⟩ : S93), (⟨0, 6, 0, 0, (⟨0, 0⟩ : S23), (⟨0, 0⟩ : S23), (⟨0, 0⟩ : S23), 0⟩ : S93)] : List (S93))))))) = some (r1, r2, r3, r4, r5) := H
  have A5 := Aside0.mk A50
  clear A50
  replace H := Option.bind_eq_some_iff.mp H
  obtain ⟨⟨t115, t116⟩, A60, H⟩ := H
  replace H : ((culletlaw09_k.f 180 180).bind fun bt117 => (some (t105, t106, t107, t108, (([(⟨0, 1, 0, 0, (⟨t109, t110⟩ : S23), (⟨t111, t112⟩ : S23), (⟨0, 0⟩ : S23), 0⟩ : S93), (⟨0, 2, 0, 0, (⟨t113, t114⟩ : S23), (⟨0, 0⟩ : S23), (⟨0, 0⟩ : S23), 0⟩ : S93), (⟨0, 3, 0, 0, (⟨t115, t116⟩ : S23), (⟨0, 0⟩ : S23), (⟨0, 0⟩ : S23), 0⟩ : S93), (⟨0, 4, 0, 7, (⟨bt117.1, bt117.2⟩ : S23), (⟨0, 0⟩ : S23), (⟨0, 0⟩ : S23), 0⟩ : S93), (⟨0, 6, 0, 0, (⟨0, 0⟩ : S23), (⟨0, 0⟩ : S23), (⟨0, 0⟩ : S23), 0⟩ : S93)] : List (S93)))))) = some (r1, r2, r3, r4, r5) := H
  have A6 := Aside0.mk A60
  clear A60
  replace H := Option.bind_eq_some_iff.mp H
  obtain ⟨⟨t117, t118⟩, A70, H⟩ := H
  replace H : (some (t105, t106, t107, t108, (([(⟨0, 1, 0, 0, (⟨t109, t110⟩ : S23), (⟨t111, t112⟩ : S23), (⟨0, 0⟩ : S23), 0⟩ : S93), (⟨0, 2, 0, 0, (⟨t113, t114⟩ : S23), (⟨0, 0⟩ : S23), (⟨0, 0⟩ : S23), 0⟩ : S93), (⟨0, 3, 0, 0, (⟨t115, t116⟩ : S23), (⟨0, 0⟩ : S23), (⟨0, 0⟩ : S23), 0⟩ : S93), (⟨0, 4, 0, 7, (⟨t117, t118⟩ : S23), (⟨0, 0⟩ : S23), (⟨0, 0⟩ : S23), 0⟩ : S93), (⟨0, 6, 0, 0, (⟨0, 0⟩ : S23), (⟨0, 0⟩ : S23), (⟨0, 0⟩ : S23), 0⟩ : S93)] : List (S93))))) = some (r1, r2, r3, r4, r5) := H
  have A7 := Aside0.mk A70
  clear A70
  obtain ⟨y119, hy119⟩ : ∃ y_ : List (S93), y_ = (([(⟨0, 1, 0, 0, (⟨t109, t110⟩ : S23), (⟨t111, t112⟩ : S23), (⟨0, 0⟩ : S23), 0⟩ : S93), (⟨0, 2, 0, 0, (⟨t113, t114⟩ : S23), (⟨0, 0⟩ : S23), (⟨0, 0⟩ : S23), 0⟩ : S93), (⟨0, 3, 0, 0, (⟨t115, t116⟩ : S23), (⟨0, 0⟩ : S23), (⟨0, 0⟩ : S23), 0⟩ : S93), (⟨0, 4, 0, 7, (⟨t117, t118⟩ : S23), (⟨0, 0⟩ : S23), (⟨0, 0⟩ : S23), 0⟩ : S93), (⟨0, 6, 0, 0, (⟨0, 0⟩ : S23), (⟨0, 0⟩ : S23), (⟨0, 0⟩ : S23), 0⟩ : S93)] : List (S93))) := ⟨_, rfl⟩
  replace H : (some (t105, t106, t107, t108, y119)) = some (r1, r2, r3, r4, r5) := by first | (rw [hy119]; with_reducible exact H) | (have H2_ := (Option.bind_some _ _).symm.trans H; rw [hy119]; with_reducible exact H2_) | (have H2_ := (Option.bind_some _ _).symm.trans H; with_reducible exact H2_) | with_reducible exact H | (rw [hy119]; exact H) | exact H
  have Ny119 := Aside0.mk hy119
  clear hy119
  simp only [Option.some.injEq, Prod.mk.injEq] at H
  obtain ⟨rfl, rfl, rfl, rfl, rfl⟩ := H
  go_enter Tryz.func23, Tryz.ntmps23
  go_wp2_with (first | ((with_reducible refine gate_dst (N := 0) rfl ?_); refine box_event ?hg (N := 0) ?hd (cs := #[.int .i64 0, .int .i64 0, .int .i64 0, .int .i64 0, .slice none 0 0]) (t := 26) ?hr ?_; (case hd => rfl); (case hg => rfl); (case hr => first | (go_simp; done) | (go_simp; rfl)); intro gb104 hg w8 hbox hb; have n0_ := Aside0.mk (below_step (by repeat (first | (with_reducible first | exact HB.out | apply below_alloc | apply pw_below_drewN | apply below_drew1) | exact HB.out)) hb); have n1_ := Aside0.mk (hbox); have n2_ := Aside0.mk ((by rw [hg]; exact (below_size (by repeat (first | (with_reducible first | exact HB.out | apply below_alloc | apply pw_below_drewN | apply below_drew1) | exact HB.out))) : w.heap.size ≤ gb104)); have n3_ := Aside0.mk ((by rw [hg]; exact (below_size (by repeat (first | (with_reducible first | exact HB.out | apply below_alloc | apply pw_below_drewN | apply below_drew1) | exact HB.out))) : w.heap.size ≤ gb104)); clear HB; have HB := n0_; have BK104 := n1_; have GW104 := n2_; have GE104 := n3_; clear n0_ n1_ n2_ n3_; clear hb hbox hg) | ((with_reducible refine gate_callee (f := 51) rfl ?_); refine goesL_ (some 1) rfl rfl Tryz.func51 (by kernel_rfl) rfl #[.int .i64 900, .int .i64 1300] rfl (by (try simp only [List.map_toArray, List.map_cons, List.map_nil]); first | done | rfl | (simp only [List.length_drop, List.length_take]; rfl)) ?_; (with_reducible refine (culletlaw09_k.calls 900 1300 t105 t106 _ A1.out).mono ?_); rintro e w9 ⟨rfl, hb⟩; refine ⟨_, rfl, ?_⟩; have n0_ := Aside0.mk (blk_below (g := gb104) (o := .cells #[.int .i64 0, .int .i64 0, .int .i64 0, .int .i64 0, .slice none 0 0] 26 (0, 0)) (by (with_reducible repeat (first | refine blk_drewN ?_ _ | refine blk_drew ?_ | refine blk_alloc ?_ _)); exact BK104.out) hb); have n1_ := Aside0.mk (below_step (by repeat (first | (with_reducible first | exact HB.out | apply below_alloc | apply pw_below_drewN | apply below_drew1 | refine below_set ?_ GE104.out) | exact HB.out)) hb); clear BK104; clear HB; have BK104 := n0_; have HB := n1_; clear n0_ n1_; (try clear hb); (try clear hb2); (try clear hk); (try clear hi)) | ((with_reducible refine gate_callee (f := 51) rfl ?_); refine goesL_ (some 2) rfl rfl Tryz.func51 (by kernel_rfl) rfl #[.int .i64 1000, .int .i64 1000] rfl (by (try simp only [List.map_toArray, List.map_cons, List.map_nil]); first | done | rfl | (simp only [List.length_drop, List.length_take]; rfl)) ?_; (with_reducible refine (culletlaw09_k.calls 1000 1000 t107 t108 _ A2.out).mono ?_); rintro e w10 ⟨rfl, hb⟩; refine ⟨_, rfl, ?_⟩; have n0_ := Aside0.mk (blk_below (g := gb104) (o := .cells #[.int .i64 0, .int .i64 0, .int .i64 0, .int .i64 0, .slice none 0 0] 26 (0, 0)) (by (with_reducible repeat (first | refine blk_drewN ?_ _ | refine blk_drew ?_ | refine blk_alloc ?_ _)); exact BK104.out) hb); have n1_ := Aside0.mk (below_step (by repeat (first | (with_reducible first | exact HB.out | apply below_alloc | apply pw_below_drewN | apply below_drew1 | refine below_set ?_ GE104.out) | exact HB.out)) hb); clear BK104; clear HB; have BK104 := n0_; have HB := n1_; clear n0_ n1_; (try clear hb); (try clear hb2); (try clear hk); (try clear hi)) | ((with_reducible refine gate_callee (f := 51) rfl ?_); refine goesL_ (some 3) rfl rfl Tryz.func51 (by kernel_rfl) rfl #[.int .i64 500, .int .i64 500] rfl (by (try simp only [List.map_toArray, List.map_cons, List.map_nil]); first | done | rfl | (simp only [List.length_drop, List.length_take]; rfl)) ?_; (with_reducible refine (culletlaw09_k.calls 500 500 t109 t110 _ A3.out).mono ?_); rintro e w11 ⟨rfl, hb⟩; refine ⟨_, rfl, ?_⟩; have n0_ := Aside0.mk (blk_below (g := gb104) (o := .cells #[.int .i64 0, .int .i64 0, .int .i64 0, .int .i64 0, .slice none 0 0] 26 (0, 0)) (by (with_reducible repeat (first | refine blk_drewN ?_ _ | refine blk_drew ?_ | refine blk_alloc ?_ _)); exact BK104.out) hb); have n1_ := Aside0.mk (below_step (by repeat (first | (with_reducible first | exact HB.out | apply below_alloc | apply pw_below_drewN | apply below_drew1 | refine below_set ?_ GE104.out) | exact HB.out)) hb); clear BK104; clear HB; have BK104 := n0_; have HB := n1_; clear n0_ n1_; (try clear hb); (try clear hb2); (try clear hk); (try clear hi)) | ((with_reducible refine gate_callee (f := 51) rfl ?_); refine goesL_ (some 4) rfl rfl Tryz.func51 (by kernel_rfl) rfl #[.int .i64 600, .int .i64 700] rfl (by (try simp only [List.map_toArray, List.map_cons, List.map_nil]); first | done | rfl | (simp only [List.length_drop, List.length_take]; rfl)) ?_; (with_reducible refine (culletlaw09_k.calls 600 700 t111 t112 _ A4.out).mono ?_); rintro e w12 ⟨rfl, hb⟩; refine ⟨_, rfl, ?_⟩; have n0_ := Aside0.mk (blk_below (g := gb104) (o := .cells #[.int .i64 0, .int .i64 0, .int .i64 0, .int .i64 0, .slice none 0 0] 26 (0, 0)) (by (with_reducible repeat (first | refine blk_drewN ?_ _ | refine blk_drew ?_ | refine blk_alloc ?_ _)); exact BK104.out) hb); have n1_ := Aside0.mk (below_step (by repeat (first | (with_reducible first | exact HB.out | apply below_alloc | apply pw_below_drewN | apply below_drew1 | refine below_set ?_ GE104.out) | exact HB.out)) hb); clear BK104; clear HB; have BK104 := n0_; have HB := n1_; clear n0_ n1_; (try clear hb); (try clear hb2); (try clear hk); (try clear hi)) | ((with_reducible refine gate_callee (f := 51) rfl ?_); refine goesL_ (some 6) rfl rfl Tryz.func51 (by kernel_rfl) rfl #[.int .i64 200, .int .i64 210] rfl (by (try simp only [List.map_toArray, List.map_cons, List.map_nil]); first | done | rfl | (simp only [List.length_drop, List.length_take]; rfl)) ?_; (with_reducible refine (culletlaw09_k.calls 200 210 t113 t114 _ A5.out).mono ?_); rintro e w13 ⟨rfl, hb⟩; refine ⟨_, rfl, ?_⟩; have n0_ := Aside0.mk (blk_below (g := gb104) (o := .cells #[.int .i64 0, .int .i64 0, .int .i64 0, .int .i64 0, .slice none 0 0] 26 (0, 0)) (by (with_reducible repeat (first | refine blk_drewN ?_ _ | refine blk_drew ?_ | refine blk_alloc ?_ _)); exact BK104.out) hb); have n1_ := Aside0.mk (below_step (by repeat (first | (with_reducible first | exact HB.out | apply below_alloc | apply pw_below_drewN | apply below_drew1 | refine below_set ?_ GE104.out) | exact HB.out)) hb); clear BK104; clear HB; have BK104 := n0_; have HB := n1_; clear n0_ n1_; (try clear hb); (try clear hb2); (try clear hk); (try clear hi)) | ((with_reducible refine gate_callee (f := 51) rfl ?_); refine goesL_ (some 8) rfl rfl Tryz.func51 (by kernel_rfl) rfl #[.int .i64 190, .int .i64 200] rfl (by (try simp only [List.map_toArray, List.map_cons, List.map_nil]); first | done | rfl | (simp only [List.length_drop, List.length_take]; rfl)) ?_; (with_reducible refine (culletlaw09_k.calls 190 200 t115 t116 _ A6.out).mono ?_); rintro e w14 ⟨rfl, hb⟩; refine ⟨_, rfl, ?_⟩; have n0_ := Aside0.mk (blk_below (g := gb104) (o := .cells #[.int .i64 0, .int .i64 0, .int .i64 0, .int .i64 0, .slice none 0 0] 26 (0, 0)) (by (with_reducible repeat (first | refine blk_drewN ?_ _ | refine blk_drew ?_ | refine blk_alloc ?_ _)); exact BK104.out) hb); have n1_ := Aside0.mk (below_step (by repeat (first | (with_reducible first | exact HB.out | apply below_alloc | apply pw_below_drewN | apply below_drew1 | refine below_set ?_ GE104.out) | exact HB.out)) hb); clear BK104; clear HB; have BK104 := n0_; have HB := n1_; clear n0_ n1_; (try clear hb); (try clear hb2); (try clear hk); (try clear hi)) | ((with_reducible refine gate_callee (f := 51) rfl ?_); refine goesL_ (some 10) rfl rfl Tryz.func51 (by kernel_rfl) rfl #[.int .i64 180, .int .i64 180] rfl (by (try simp only [List.map_toArray, List.map_cons, List.map_nil]); first | done | rfl | (simp only [List.length_drop, List.length_take]; rfl)) ?_; (with_reducible refine (culletlaw09_k.calls 180 180 t117 t118 _ A7.out).mono ?_); rintro e w15 ⟨rfl, hb⟩; refine ⟨_, rfl, ?_⟩; have n0_ := Aside0.mk (blk_below (g := gb104) (o := .cells #[.int .i64 0, .int .i64 0, .int .i64 0, .int .i64 0, .slice none 0 0] 26 (0, 0)) (by (with_reducible repeat (first | refine blk_drewN ?_ _ | refine blk_drew ?_ | refine blk_alloc ?_ _)); exact BK104.out) hb); have n1_ := Aside0.mk (below_step (by repeat (first | (with_reducible first | exact HB.out | apply below_alloc | apply pw_below_drewN | apply below_drew1 | refine below_set ?_ GE104.out) | exact HB.out)) hb); clear BK104; clear HB; have BK104 := n0_; have HB := n1_; clear n0_ n1_; (try clear hb); (try clear hb2); (try clear hk); (try clear hi)) | ((with_reducible refine gate_dst (N := 13) rfl ?_); refine Kd.R_lit k93 _ 93 ?hg (N := 13) ?hd (xs := ([(⟨0, 1, 0, 0, (⟨t109, t110⟩ : S23), (⟨t111, t112⟩ : S23), (⟨0, 0⟩ : S23), 0⟩ : S93), (⟨0, 2, 0, 0, (⟨t113, t114⟩ : S23), (⟨0, 0⟩ : S23), (⟨0, 0⟩ : S23), 0⟩ : S93), (⟨0, 3, 0, 0, (⟨t115, t116⟩ : S23), (⟨0, 0⟩ : S23), (⟨0, 0⟩ : S23), 0⟩ : S93), (⟨0, 4, 0, 7, (⟨t117, t118⟩ : S23), (⟨0, 0⟩ : S23), (⟨0, 0⟩ : S23), 0⟩ : S93), (⟨0, 6, 0, 0, (⟨0, 0⟩ : S23), (⟨0, 0⟩ : S23), (⟨0, 0⟩ : S23), 0⟩ : S93)] : List (S93))) (inner := [.int .i64 0, .int .u8 1, .int .i64 0, .int .i64 0, .int .i64 t109, .int .i64 t110, .int .i64 t111, .int .i64 t112, .int .i64 0, .int .i64 0, .int .i64 0, .int .i64 0, .int .u8 2, .int .i64 0, .int .i64 0, .int .i64 t113, .int .i64 t114, .int .i64 0, .int .i64 0, .int .i64 0, .int .i64 0, .int .i64 0, .int .i64 0, .int .u8 3, .int .i64 0, .int .i64 0, .int .i64 t115, .int .i64 t116, .int .i64 0, .int .i64 0, .int .i64 0, .int .i64 0, .int .i64 0, .int .i64 0, .int .u8 4, .int .i64 0, .int .i64 7, .int .i64 t117, .int .i64 t118, .int .i64 0, .int .i64 0, .int .i64 0, .int .i64 0, .int .i64 0, .int .i64 0, .int .u8 6, .int .i64 0, .int .i64 0, .int .i64 0, .int .i64 0, .int .i64 0, .int .i64 0, .int .i64 0, .int .i64 0, .int .i64 0]) (ok := fun _ => True) (okp := fun _ => True) ?hr ?hp (fun _ hk => hk) trivial (Below.refl _ _) (Nat.le_refl _) (by simp) ?_; (case hd => rfl); (case hg => rfl); (case hr => first | (go_simp; done) | (go_simp; rfl)); (case hp => exact (Reps.front (show Kd.M k93 _ _ _ (⟨0, 1, 0, 0, (⟨t109, t110⟩ : S23), (⟨t111, t112⟩ : S23), (⟨0, 0⟩ : S23), 0⟩ : S93) [.int .i64 0, .int .u8 1, .int .i64 0, .int .i64 0, .int .i64 t109, .int .i64 t110, .int .i64 t111, .int .i64 t112, .int .i64 0, .int .i64 0, .int .i64 0] from (k93_mkM _ _ _ (⟨0, 1, 0, 0, (⟨t109, t110⟩ : S23), (⟨t111, t112⟩ : S23), (⟨0, 0⟩ : S23), 0⟩ : S93) )) rfl (Reps.front (show Kd.M k93 _ _ _ (⟨0, 2, 0, 0, (⟨t113, t114⟩ : S23), (⟨0, 0⟩ : S23), (⟨0, 0⟩ : S23), 0⟩ : S93) [.int .i64 0, .int .u8 2, .int .i64 0, .int .i64 0, .int .i64 t113, .int .i64 t114, .int .i64 0, .int .i64 0, .int .i64 0, .int .i64 0, .int .i64 0] from (k93_mkM _ _ _ (⟨0, 2, 0, 0, (⟨t113, t114⟩ : S23), (⟨0, 0⟩ : S23), (⟨0, 0⟩ : S23), 0⟩ : S93) )) rfl (Reps.front (show Kd.M k93 _ _ _ (⟨0, 3, 0, 0, (⟨t115, t116⟩ : S23), (⟨0, 0⟩ : S23), (⟨0, 0⟩ : S23), 0⟩ : S93) [.int .i64 0, .int .u8 3, .int .i64 0, .int .i64 0, .int .i64 t115, .int .i64 t116, .int .i64 0, .int .i64 0, .int .i64 0, .int .i64 0, .int .i64 0] from (k93_mkM _ _ _ (⟨0, 3, 0, 0, (⟨t115, t116⟩ : S23), (⟨0, 0⟩ : S23), (⟨0, 0⟩ : S23), 0⟩ : S93) )) rfl (Reps.front (show Kd.M k93 _ _ _ (⟨0, 4, 0, 7, (⟨t117, t118⟩ : S23), (⟨0, 0⟩ : S23), (⟨0, 0⟩ : S23), 0⟩ : S93) [.int .i64 0, .int .u8 4, .int .i64 0, .int .i64 7, .int .i64 t117, .int .i64 t118, .int .i64 0, .int .i64 0, .int .i64 0, .int .i64 0, .int .i64 0] from (k93_mkM _ _ _ (⟨0, 4, 0, 7, (⟨t117, t118⟩ : S23), (⟨0, 0⟩ : S23), (⟨0, 0⟩ : S23), 0⟩ : S93) )) rfl (Reps.front (show Kd.M k93 _ _ _ (⟨0, 6, 0, 0, (⟨0, 0⟩ : S23), (⟨0, 0⟩ : S23), (⟨0, 0⟩ : S23), 0⟩ : S93) [.int .i64 0, .int .u8 6, .int .i64 0, .int .i64 0, .int .i64 0, .int .i64 0, .int .i64 0, .int .i64 0, .int .i64 0, .int .i64 0, .int .i64 0] from (k93_mkM _ _ _ (⟨0, 6, 0, 0, (⟨0, 0⟩ : S23), (⟨0, 0⟩ : S23), (⟨0, 0⟩ : S23), 0⟩ : S93) )) rfl (Reps.none _ _) rfl) rfl) rfl) rfl) rfl)); intro v120 w16 ho17 hb hg_ hnew_; clear hg_ hnew_; (first | rw [← Ny119.out] at ho17 | (simp only [Int.reduceToNat] at ho17; rw [← Ny119.out] at ho17)); have n0_ := Aside0.mk (Kd.R_lower ho17 (below_size (by repeat (first | (with_reducible first | exact HB.out | apply below_alloc | apply pw_below_drewN | apply below_drew1 | refine below_set ?_ GE104.out) | exact HB.out)))); have n1_ := Aside0.mk (blk_below (g := gb104) (o := .cells #[.int .i64 0, .int .i64 0, .int .i64 0, .int .i64 0, .slice none 0 0] 26 (0, 0)) (by (with_reducible repeat (first | refine blk_drewN ?_ _ | refine blk_drew ?_ | refine blk_alloc ?_ _)); exact BK104.out) hb); have n2_ := Aside0.mk (below_step (by repeat (first | (with_reducible first | exact HB.out | apply below_alloc | apply pw_below_drewN | apply below_drew1 | refine below_set ?_ GE104.out) | exact HB.out)) hb); clear BK104; clear HB; have HO121 := n0_; have BK104 := n1_; have HB := n2_; clear n0_ n1_ n2_; clear hb ho17; obtain ⟨Ao18, co18, eo18⟩ := Kd.R_slice HO121.out; subst eo18; have hcz19_0 : w16.cell? ⟨gb104, 0, none⟩ = some (.int .i64 0) := (blk_cell BK104.out 0).trans rfl; have hcz19_1 : w16.cell? ⟨gb104, 1, none⟩ = some (.int .i64 0) := (blk_cell BK104.out 1).trans rfl; have hcz19_2 : w16.cell? ⟨gb104, 2, none⟩ = some (.int .i64 0) := (blk_cell BK104.out 2).trans rfl; have hcz19_3 : w16.cell? ⟨gb104, 3, none⟩ = some (.int .i64 0) := (blk_cell BK104.out 3).trans rfl; have hcz19_4 : w16.cell? ⟨gb104, 4, none⟩ = some (.slice none 0 0) := (blk_cell BK104.out 4).trans rfl; have hfz19_0 := blk_frozen BK104.out 0; have hfz19_1 := blk_frozen BK104.out 1; have hfz19_2 := blk_frozen BK104.out 2; have hfz19_3 := blk_frozen BK104.out 3; have hfz19_4 := blk_frozen BK104.out 4))
  refine bodyPost_ret (results_cell_row rfl _ _ gb104 26 #[.int .i64 t105, .int .i64 t106, .int .i64 t107, .int .i64 t108, .slice Ao18 y119.length co18] (0, 0) _ rfl (by (with_reducible repeat (first | refine blk_drewN ?_ _ | refine blk_drew ?_ | refine blk_alloc ?_ _)); refine blk_put (cs := #[.int .i64 t105, .int .i64 t106, .int .i64 t107, .int .i64 t108, .slice none 0 0]) ?_ 4 _ rfl; (with_reducible repeat (first | refine blk_drewN ?_ _ | refine blk_drew ?_ | refine blk_alloc ?_ _)); refine blk_put (cs := #[.int .i64 t105, .int .i64 t106, .int .i64 t107, .int .i64 0, .slice none 0 0]) ?_ 3 _ rfl; (with_reducible repeat (first | refine blk_drewN ?_ _ | refine blk_drew ?_ | refine blk_alloc ?_ _)); refine blk_put (cs := #[.int .i64 t105, .int .i64 t106, .int .i64 0, .int .i64 0, .slice none 0 0]) ?_ 2 _ rfl; (with_reducible repeat (first | refine blk_drewN ?_ _ | refine blk_drew ?_ | refine blk_alloc ?_ _)); refine blk_put (cs := #[.int .i64 t105, .int .i64 0, .int .i64 0, .int .i64 0, .slice none 0 0]) ?_ 1 _ rfl; (with_reducible repeat (first | refine blk_drewN ?_ _ | refine blk_drew ?_ | refine blk_alloc ?_ _)); refine blk_put (cs := #[.int .i64 0, .int .i64 0, .int .i64 0, .int .i64 0, .slice none 0 0]) ?_ 0 _ rfl; (with_reducible repeat (first | refine blk_drewN ?_ _ | refine blk_drew ?_ | refine blk_alloc ?_ _)); exact BK104.out) Tryz.underlying26 rfl (by kernel_rfl)) rfl ?_
  exact ⟨_, by first | rfl | (simp [errW_none, errW_some] <;> rfl) | (simp [*, errW_none, errW_some] <;> rfl), by (with_reducible repeat (first | apply Kd.R_alloc | apply Kd.R_drewN | apply Kd.R_drew)); exact Kd.R_mono (Kd.R_far (p := ⟨gb104, 4, none⟩) (Kd.R_far (p := ⟨gb104, 3, none⟩) (Kd.R_far (p := ⟨gb104, 2, none⟩) (Kd.R_far (p := ⟨gb104, 1, none⟩) (Kd.R_far (p := ⟨gb104, 0, none⟩) (Kd.R_types HO121.out BK104.out (by decide)) (fun _ hk => hk.2) (.int .i64 t105)) (fun _ hk => hk.2) (.int .i64 t106)) (fun _ hk => hk.2) (.int .i64 t107)) (fun _ hk => hk.2) (.int .i64 t108)) (fun _ hk => hk.2) (.slice Ao18 y119.length co18)) (fun _ hk => trivial), by repeat (first | (with_reducible first | exact HB.out | apply below_alloc | apply pw_below_drewN | apply below_drew1 | refine below_set ?_ GE104.out) | exact HB.out)⟩

end Go.Proofs.YtbmkbokkmmdjdaaGreat.Q
end
section
namespace Go.Proofs.YtbmkbokkmmdjdaaGreat
open Go.RowKit Go.Proofs.YtbmkbokkmmdjdaaGreatW.PrintWords Go.Proofs.YtbmkbokkmmdjdaaGreatW.PrintLast Go.Proofs.YtbmkbokkmmdjdaaGreatW.PrintMore
open Q Go.Shelf
attribute [local go_sem] Oper.semAt_some wide_depth wide_fn
set_option linter.unusedVariables false
set_option linter.unusedSimpArgs false

attribute [local go_sem high] eqA23
def yearL : List S93 := [⟨0, 1, 0, 0, ⟨500, 500⟩, ⟨600, 700⟩, ⟨0, 0⟩, 0⟩, ⟨0, 2, 0, 0, ⟨200, 210⟩, ⟨0, 0⟩, ⟨0, 0⟩, 0⟩, ⟨0, 3, 0, 0, ⟨190, 200⟩, ⟨0, 0⟩, ⟨0, 0⟩, 0⟩, ⟨0, 4, 0, 7, ⟨180, 180⟩, ⟨0, 0⟩, ⟨0, 0⟩, 0⟩, ⟨0, 6, 0, 0, ⟨0, 0⟩, ⟨0, 0⟩, ⟨0, 0⟩, 0⟩]
theorem year_any (w : World) : Calls Tryz.prog 23 #[] w fun e w' => ∃ A c, e = .returned (.agg #[.int .i64 900, .int .i64 1300, .int .i64 1000, .int .i64 1000, .slice A yearL.length c]) ∧ yearL.length ≤ c ∧ Kd.C k93 w' A yearL.length yearL ∧ Below w.heap.size w w' := by
  refine (culletlaw09_year.calls 900 1300 1000 1000 yearL w (by rfl)).mono ?_
  rintro e w' ⟨v, rfl, hR, hb⟩
  obtain ⟨A, c, rfl, hl, hC⟩ := Kd.R_reads hR
  exact ⟨A, c, rfl, hl, hC, hb⟩
theorem year_wrong : wrongV ⟨900, 1300⟩ ⟨1000, 1000⟩ yearL = .tuple #[.int .i64 5, .int .u8 0, .int .i64 0, .int .i64 0] := by kernel_rfl
theorem year_a0 : amountV ⟨900, 1300⟩ ⟨1000, 1000⟩ yearL 0 0 5 = (⟨1000000, 1020000⟩, 0) := by kernel_rfl
theorem year_a2 : amountV ⟨900, 1300⟩ ⟨1000, 1000⟩ yearL 2 0 5 = (⟨290000, 300000⟩, 0) := by kernel_rfl
theorem year_a1 : amountV ⟨900, 1300⟩ ⟨1000, 1000⟩ yearL 1 0 5 = (⟨10000, 20000⟩, 0) := by kernel_rfl
theorem year_share : shareRes ⟨900, 1300⟩ ⟨1000, 1000⟩ yearL 0 = (⟨571, 735⟩, 0) := by kernel_rfl
theorem year_most : mostV ⟨900, 1300⟩ ⟨1000, 1000⟩ yearL 7 = (571, 0) := by kernel_rfl
set_option maxRecDepth 100000 in
set_option maxHeartbeats 8000000 in
theorem sums_any (w : World) : Calls Tryz.prog 7 #[] w (RetBool true w) := by
  have hu := Tryz.underlying23
  have HB0 := hid (Below.refl w.heap.size w)
  go_enter Tryz.func7, Tryz.ntmps7
  go_wp2_with fail
  refine (year_any _).mono ?_
  rintro e W1 ⟨A1, c1, rfl, hc1, hk1, hb⟩
  have HB1 := hid (HB0.out.trans (hb.mono HB0.out.size))
  clear hb
  go_wp2_with fail
  refine (Wrong_any ⟨900, 1300⟩ ⟨1000, 1000⟩ A1 c1 yearL _ hk1 hc1).mono ?_
  rintro e W2 ⟨rfl, hb⟩
  rw [year_wrong]
  have HB2 := hid (HB1.out.trans (hb.mono HB1.out.size))
  clear hb hk1 hc1
  go_wp2_with fail
  refine (year_any _).mono ?_
  rintro e W1 ⟨A1, c1, rfl, hc1, hk1, hb⟩
  have HB3 := hid (HB2.out.trans (hb.mono HB2.out.size))
  clear hb
  go_wp2_with fail
  refine (Amount_any ⟨900, 1300⟩ ⟨1000, 1000⟩ A1 c1 yearL 0 0 5 _ hk1 hc1).mono ?_
  rintro e W2 ⟨rfl, hb⟩
  rw [year_a0]
  have HB4 := hid (HB3.out.trans (hb.mono HB3.out.size))
  clear hb hk1 hc1
  go_upto_region 3 with fail
  have hgr := (Below.refl W2.heap.size W2).alloc (Nat.le_refl _) (.cells #[.int .i64 1000000, .int .i64 1020000] 23)
  have e1 := World.alloc_heap_new W2 (.cells #[.int .i64 1000000, .int .i64 1020000] 23)
  have HX1 := hid (HB4.out.trans (hgr.mono HB4.out.size))
  clear HB4 hgr
  have HB4 := hid HX1.out
  generalize W2.alloc (.cells #[.int .i64 1000000, .int .i64 1020000] 23) = W3 at *
  generalize W2.heap.size = Bx1 at *
  go_wp2_with fail
  refine (year_any _).mono ?_
  rintro e W1 ⟨A1, c1, rfl, hc1, hk1, hb⟩
  have HB5 := hid (HB4.out.trans (hb.mono HB4.out.size))
  have e1' := heap_grow e1 hb
  clear e1
  have e1 := e1'
  clear e1'
  clear hb
  go_wp2_with fail
  refine (Amount_any ⟨900, 1300⟩ ⟨1000, 1000⟩ A1 c1 yearL 2 0 5 _ hk1 hc1).mono ?_
  rintro e W2 ⟨rfl, hb⟩
  rw [year_a2]
  have HB6 := hid (HB5.out.trans (hb.mono HB5.out.size))
  have e1' := heap_grow e1 hb
  clear e1
  have e1 := e1'
  clear e1'
  clear hb hk1 hc1
  go_upto_region 4 with fail
  have hgr := (Below.refl W2.heap.size W2).alloc (Nat.le_refl _) (.cells #[.int .i64 290000, .int .i64 300000] 23)
  have e2 := World.alloc_heap_new W2 (.cells #[.int .i64 290000, .int .i64 300000] 23)
  have e1' := heap_grow e1 hgr
  clear e1
  have e1 := e1'
  clear e1'
  have HX2 := hid (HB6.out.trans (hgr.mono HB6.out.size))
  clear HB6 hgr
  have HB6 := hid HX2.out
  generalize W2.alloc (.cells #[.int .i64 290000, .int .i64 300000] 23) = W3 at *
  generalize W2.heap.size = Bx2 at *
  go_wp2_with fail
  refine (year_any _).mono ?_
  rintro e W1 ⟨A1, c1, rfl, hc1, hk1, hb⟩
  have HB7 := hid (HB6.out.trans (hb.mono HB6.out.size))
  have e1' := heap_grow e1 hb
  clear e1
  have e2' := heap_grow e2 hb
  clear e2
  have e1 := e1'
  clear e1'
  have e2 := e2'
  clear e2'
  clear hb
  go_wp2_with fail
  refine (Amount_any ⟨900, 1300⟩ ⟨1000, 1000⟩ A1 c1 yearL 1 0 5 _ hk1 hc1).mono ?_
  rintro e W2 ⟨rfl, hb⟩
  rw [year_a1]
  have HB8 := hid (HB7.out.trans (hb.mono HB7.out.size))
  have e1' := heap_grow e1 hb
  clear e1
  have e2' := heap_grow e2 hb
  clear e2
  have e1 := e1'
  clear e1'
  have e2 := e2'
  clear e2'
  clear hb hk1 hc1
  go_upto_region 5 with fail
  have hgr := (Below.refl W2.heap.size W2).alloc (Nat.le_refl _) (.cells #[.int .i64 10000, .int .i64 20000] 23)
  have e3 := World.alloc_heap_new W2 (.cells #[.int .i64 10000, .int .i64 20000] 23)
  have e1' := heap_grow e1 hgr
  clear e1
  have e2' := heap_grow e2 hgr
  clear e2
  have e1 := e1'
  clear e1'
  have e2 := e2'
  clear e2'
  have HX3 := hid (HB8.out.trans (hgr.mono HB8.out.size))
  clear HB8 hgr
  have HB8 := hid HX3.out
  generalize W2.alloc (.cells #[.int .i64 10000, .int .i64 20000] 23) = W3 at *
  generalize W2.heap.size = Bx3 at *
  go_wp2_with fail
  refine (year_any _).mono ?_
  rintro e W1 ⟨A1, c1, rfl, hc1, hk1, hb⟩
  have HB9 := hid (HB8.out.trans (hb.mono HB8.out.size))
  have e1' := heap_grow e1 hb
  clear e1
  have e2' := heap_grow e2 hb
  clear e2
  have e3' := heap_grow e3 hb
  clear e3
  have e1 := e1'
  clear e1'
  have e2 := e2'
  clear e2'
  have e3 := e3'
  clear e3'
  clear hb
  go_wp2_with fail
  refine (Share_any ⟨900, 1300⟩ ⟨1000, 1000⟩ A1 c1 yearL 0 _ hk1 hc1).mono ?_
  rintro e W2 ⟨rfl, hb⟩
  rw [year_share]
  have HB10 := hid (HB9.out.trans (hb.mono HB9.out.size))
  have e1' := heap_grow e1 hb
  clear e1
  have e2' := heap_grow e2 hb
  clear e2
  have e3' := heap_grow e3 hb
  clear e3
  have e1 := e1'
  clear e1'
  have e2 := e2'
  clear e2'
  have e3 := e3'
  clear e3'
  clear hb hk1 hc1
  go_upto_region 6 with fail
  have hgr := (Below.refl W2.heap.size W2).alloc (Nat.le_refl _) (.cells #[.int .i64 571, .int .i64 735] 23)
  have e4 := World.alloc_heap_new W2 (.cells #[.int .i64 571, .int .i64 735] 23)
  have e1' := heap_grow e1 hgr
  clear e1
  have e2' := heap_grow e2 hgr
  clear e2
  have e3' := heap_grow e3 hgr
  clear e3
  have e1 := e1'
  clear e1'
  have e2 := e2'
  clear e2'
  have e3 := e3'
  clear e3'
  have HX4 := hid (HB10.out.trans (hgr.mono HB10.out.size))
  clear HB10 hgr
  have HB10 := hid HX4.out
  generalize W2.alloc (.cells #[.int .i64 571, .int .i64 735] 23) = W3 at *
  generalize W2.heap.size = Bx4 at *
  go_wp2_with fail
  refine (year_any _).mono ?_
  rintro e W1 ⟨A1, c1, rfl, hc1, hk1, hb⟩
  have HB11 := hid (HB10.out.trans (hb.mono HB10.out.size))
  have e1' := heap_grow e1 hb
  clear e1
  have e2' := heap_grow e2 hb
  clear e2
  have e3' := heap_grow e3 hb
  clear e3
  have e4' := heap_grow e4 hb
  clear e4
  have e1 := e1'
  clear e1'
  have e2 := e2'
  clear e2'
  have e3 := e3'
  clear e3'
  have e4 := e4'
  clear e4'
  clear hb
  go_wp2_with fail
  refine (Most_any ⟨900, 1300⟩ ⟨1000, 1000⟩ A1 c1 yearL 7 _ hk1 hc1).mono ?_
  rintro e W2 ⟨rfl, hb⟩
  rw [year_most]
  have HB12 := hid (HB11.out.trans (hb.mono HB11.out.size))
  have e1' := heap_grow e1 hb
  clear e1
  have e2' := heap_grow e2 hb
  clear e2
  have e3' := heap_grow e3 hb
  clear e3
  have e4' := heap_grow e4 hb
  clear e4
  have e1 := e1'
  clear e1'
  have e2 := e2'
  clear e2'
  have e3 := e3'
  clear e3'
  have e4 := e4'
  clear e4'
  clear hb hk1 hc1
  have y0 := blkCell e1 0
  have z0 := blkCell e1 1
  have y1 := blkCell e2 0
  have z1 := blkCell e2 1
  have y2 := blkCell e3 0
  have z2 := blkCell e3 1
  have y3 := blkCell e4 0
  have z3 := blkCell e4 1
  simp at y0 z0 y1 z1 y2 z2 y3 z3
  clear e1 e2 e3 e4
  go_wp2
  go_ret
  exact ⟨rfl, HB12.out⟩
end Go.Proofs.YtbmkbokkmmdjdaaGreat
end
section
namespace Go.Proofs.YtbmkbokkmmdjdaaGreat
open Go.RowKit Go.Proofs.YtbmkbokkmmdjdaaGreatW.PrintWords Go.Proofs.YtbmkbokkmmdjdaaGreatW.PrintLast Go.Proofs.YtbmkbokkmmdjdaaGreatW.PrintMore
open Q Go.Shelf
attribute [local go_sem] Oper.semAt_some wide_depth wide_fn
set_option linter.unusedVariables false
set_option linter.unusedSimpArgs false
set_option maxRecDepth 100000 in
set_option maxHeartbeats 4000000 in
theorem HeapsR_any (ho fi : S23) (A : Option Addr) (c : Nat) (l : List S93) (w : World) (hr : Kd.C k93 w A l.length l) (hc : l.length ≤ c) :
    Calls Tryz.prog 18 #[.agg #[.int .i64 ho.f0, .int .i64 ho.f1, .int .i64 fi.f0, .int .i64 fi.f1, .slice A l.length c]] w (RetHeaps (bookErr ho fi l) (heapsOf ho fi l) w) := by
  have hu := Tryz.underlying76
  have hu1 := Tryz.underlying41
  have HB := Below.refl w.heap.size w
  have hbel := hid (HB.alloc (Nat.le_refl _) (.cells #[.int .i64 ho.f0, .int .i64 ho.f1, .int .i64 fi.f0, .int .i64 fi.f1, .slice A l.length c] 26))
  have e0 := World.alloc_heap_new w (.cells #[.int .i64 ho.f0, .int .i64 ho.f1, .int .i64 fi.f0, .int .i64 fi.f1, .slice A l.length c] 26)
  go_enter Tryz.func18, Tryz.ntmps18
  go_wp2_with fail
  generalize w.alloc (.cells #[.int .i64 ho.f0, .int .i64 ho.f1, .int .i64 fi.f0, .int .i64 fi.f1, .slice A l.length c] 26) = W1 at *
  refine (checkR_any ho fi A c l _ (Kd.C_below hr hbel.out) hc).mono ?_
  rintro e W2 ⟨rfl, hb⟩
  have e0 := heap_grow e0 hb
  have HB2 := hid (hbel.out.trans (hb.mono hbel.out.size))
  have y0 := blkCell e0 0
  have y1 := blkCell e0 1
  have y2 := blkCell e0 2
  have y3 := blkCell e0 3
  have y4 := blkCell e0 4
  simp at y0 y1 y2 y3 y4
  clear hb hbel HB
  by_cases h1 : bookErr ho fi l = 0
  · have HV := hid h1
    have HL := hid (bookOk_of h1).len
    have HE := hid (show heapsOf ho fi l = (keptOf l).hs by unfold heapsOf; rw [if_pos h1])
    have d1 : (bookErr ho fi l != 0) = false := by simpa using h1
    clear h1
    go_wp2_with fail
    refine (periodsR_any ho fi A c l _ (Kd.C_below hr HB2.out) hc HV.out).mono ?_
    rintro e W3 ⟨vp, vh, rfl, hrp, hrh, hb⟩
    obtain ⟨Ah, ch, rfl⟩ := own_slice hrh
    obtain ⟨Ap, cp, rfl⟩ := own_slice hrp
    have HB3 := hid (HB2.out.trans (hb.mono HB2.out.size))
    have HR := hid (own_lower HB2.out.size hrh)
    clear y0 y1 y2 y3 y4 e0 hb hrh hrp
    go_wp2
    refine bodyPost_ret (v := .tuple #[.slice Ah (keptOf l).hs.length ch, .int .i64 0]) (by simp [results, Tryz.results18, go_sem]) rfl ?_
    exact ⟨_, by rw [HV.out], by rw [HE.out]; exact HR.out, HB3.out⟩
  · have HV := hid h1
    have HE := hid (show heapsOf ho fi l = [] by unfold heapsOf; rw [if_neg h1])
    have d1 : (bookErr ho fi l != 0) = true := by simpa using h1
    clear h1
    go_wp2
    refine bodyPost_ret (v := .tuple #[.slice none 0 0, .int .i64 (bookErr ho fi l)]) (by simp [results, Tryz.results18, go_sem]) rfl ?_
    exact ⟨_, rfl, by rw [HE.out]; exact own_nil _ _ _ _, HB2.out⟩
end Go.Proofs.YtbmkbokkmmdjdaaGreat
end
section
namespace Go.Proofs.YtbmkbokkmmdjdaaGreat
open Go.RowKit Go.Proofs.YtbmkbokkmmdjdaaGreatW.PrintWords Go.Proofs.YtbmkbokkmmdjdaaGreatW.PrintLast Go.Proofs.YtbmkbokkmmdjdaaGreatW.PrintMore
open Q Go.Shelf
attribute [local go_sem] Oper.semAt_some wide_depth wide_fn
set_option linter.unusedVariables false
set_option linter.unusedSimpArgs false

theorem wrap8_in {n : Int} (h : 0 ≤ n ∧ n < 256) : IntKind.u8.wrap n = n := by
  have : n % 256 = n := Int.emod_eq_of_lt h.1 h.2
  first | exact this | (unfold IntKind.wrap; simp; omega)
theorem accs_at {n i : Nat} (h : i < 2 + n) (hi : i < (accs n).length) : (accs n)[i] = (mn (i : Int) 2, mx ((i : Int) - 2) 0) := by
  match i, h, hi with
  | 0, _, _ => rfl
  | 1, _, _ => rfl
  | k + 2, h, hi =>
    have h1 : mn ((k + 2 : Nat) : Int) 2 = 2 := by unfold mn; split <;> omega
    have h2 : mx (((k + 2 : Nat) : Int) - 2) 0 = (k : Int) := by unfold mx; split <;> omega
    rw [h1, h2]
    have hk : k < n := by omega
    show ((List.range n).map (fun j : Nat => ((2 : Int), (j : Int))))[k]'(by simpa using hk) = (2, (k : Int))
    simp
end Go.Proofs.YtbmkbokkmmdjdaaGreat
end
