/-
The statement ScaleLasts: proved for every input. Part 9 of 11.
-/
import Derived.Test.YtebfnjabgkhngaaLa4
import Derived.Test.YtebfnjabgkhngaaLa8
section
set_option linter.all false
set_option linter.unusedVariables false
set_option linter.unusedSimpArgs false
set_option linter.constructorNameAsVariable false
namespace Go.Proofs.Ytebfnjabgkhngaa.Q
open Go.RowKit Go.Proofs.YtebfnjabgkhngaaW.PrintWords Go.Proofs.YtebfnjabgkhngaaW.PrintLast Go.Proofs.YtebfnjabgkhngaaW.PrintMore
attribute [local go_sem] max2_int min2_int max_two min_two max_three min_three max_four min_four
set_option linter.unusedVariables false
set_option linter.unusedSimpArgs false
attribute [local go_sem high] eqA50
def shambleslaw01_span.f (a0 : Int) (a1 : Int) : Option (Int × Int) := some (a0, a1)
set_option maxHeartbeats 8000000 in
set_option maxRecDepth 100000 in
theorem shambleslaw01_span.calls (a0 : Int) (a1 : Int) (r1 : Int) (r2 : Int) (w : World) (h : shambleslaw01_span.f a0 a1 = some (r1, r2)) :
    Calls Try.prog 45 #[.int .i64 a0, .int .i64 a1] w fun e w' => e = .returned (.agg #[.int .i64 r1, .int .i64 r2]) ∧ Below w.heap.size w w' := by
  have hu50 := Try.underlying50
  have HB := Aside0.mk (Below.refl w.heap.size w)
  have H : (some (a0, a1)) = some (r1, r2) := h
  clear h
  simp only [Option.some.injEq, Prod.mk.injEq] at H
  obtain ⟨rfl, rfl⟩ := H
  go_enter Try.func45, Try.ntmps45
  go_wp2_with (first | ((with_reducible refine gate_dst (N := 4) rfl ?_); refine box_event ?hg (N := 4) ?hd (cs := #[.int .i64 0, .int .i64 0]) (t := 50) ?hr ?_; (case hd => rfl); (case hg => rfl); (case hr => first | (go_simp; done) | (go_simp; rfl)); intro gb101 hg w3 hbox hb; have n0_ := Aside0.mk (below_step (by repeat (first | (with_reducible first | exact HB.out | apply below_alloc | apply pw_below_drewN | apply below_drew1) | exact HB.out)) hb); have n1_ := Aside0.mk (hbox); have n2_ := Aside0.mk ((by rw [hg]; exact (below_size (by repeat (first | (with_reducible first | exact HB.out | apply below_alloc | apply pw_below_drewN | apply below_drew1) | exact HB.out))) : w.heap.size ≤ gb101)); have n3_ := Aside0.mk ((by rw [hg]; exact (below_size (by repeat (first | (with_reducible first | exact HB.out | apply below_alloc | apply pw_below_drewN | apply below_drew1) | exact HB.out))) : w.heap.size ≤ gb101)); clear HB; have HB := n0_; have BK101 := n1_; have GW101 := n2_; have GE101 := n3_; clear n0_ n1_ n2_ n3_; clear hb hbox hg; have hcz4_0 : w3.cell? ⟨gb101, 0, none⟩ = some (.int .i64 0) := (blk_cell BK101.out 0).trans rfl; have hcz4_1 : w3.cell? ⟨gb101, 1, none⟩ = some (.int .i64 0) := (blk_cell BK101.out 1).trans rfl; have hfz4_0 := blk_frozen BK101.out 0; have hfz4_1 := blk_frozen BK101.out 1))
  refine bodyPost_ret (results_cell_row rfl _ _ gb101 50 #[.int .i64 a0, .int .i64 a1] (0, 0) _ rfl (by (with_reducible repeat (first | refine blk_drewN ?_ _ | refine blk_drew ?_ | refine blk_alloc ?_ _)); refine blk_put (cs := #[.int .i64 a0, .int .i64 0]) ?_ 1 _ rfl; (with_reducible repeat (first | refine blk_drewN ?_ _ | refine blk_drew ?_ | refine blk_alloc ?_ _)); refine blk_put (cs := #[.int .i64 0, .int .i64 0]) ?_ 0 _ rfl; (with_reducible repeat (first | refine blk_drewN ?_ _ | refine blk_drew ?_ | refine blk_alloc ?_ _)); exact BK101.out) Try.underlying50 rfl (by kernel_rfl)) rfl ?_
  exact ⟨by first | rfl | (simp [errW_none, errW_some] <;> rfl) | (simp [*, errW_none, errW_some] <;> rfl), by repeat (first | (with_reducible first | exact HB.out | apply below_alloc | apply pw_below_drewN | apply below_drew1 | refine below_set ?_ GE101.out) | exact HB.out)⟩
def shambleslaw01_bench.f  : Option ((List (S92)) × (List (S85)) × (List (S95)) × (List (S29)) × Int) := (shambleslaw01_span.f (-20) 20).bind fun bt103 => ((shambleslaw01_span.f (-10) 10).bind fun bt105 => ((shambleslaw01_span.f 3 5).bind fun bt110 => ((shambleslaw01_span.f (-9) (-7)).bind fun bt112 => ((shambleslaw01_span.f (-5) 5).bind fun bt117 => ((shambleslaw01_span.f (-1) 2).bind fun bt119 => (some ((([(⟨1000, (⟨0, 0⟩ : S50)⟩ : S92), (⟨1000, (⟨bt103.1, bt103.2⟩ : S50)⟩ : S92), (⟨500, (⟨bt105.1, bt105.2⟩ : S50)⟩ : S92)] : List (S92))), (([(⟨1, 0, (⟨bt110.1, bt110.2⟩ : S50)⟩ : S85), (⟨2, 1, (⟨bt112.1, bt112.2⟩ : S50)⟩ : S85)] : List (S85))), (([(⟨(⟨bt117.1, bt117.2⟩ : S50), (⟨bt119.1, bt119.2⟩ : S50)⟩ : S95)] : List (S95))), (([(⟨0, 2, 1, 1010⟩ : S29)] : List (S29))), 4)))))))
set_option maxHeartbeats 8000000 in
set_option maxRecDepth 100000 in
theorem shambleslaw01_bench.calls  (r1 : List (S92)) (r2 : List (S85)) (r3 : List (S95)) (r4 : List (S29)) (r5 : Int) (w : World) (h : shambleslaw01_bench.f  = some (r1, r2, r3, r4, r5)) :
    Calls Try.prog 56 #[] w fun e w' => ∃ v0_ v1_ v2_ v3_ : Value, e = .returned (.agg #[v0_, v1_, v2_, v3_, .int .i64 r5]) ∧ Kd.R k92 92 w' w.heap.size (fun _ => True) v0_ r1 ∧ Kd.R k85 85 w' w.heap.size (fun _ => True) v1_ r2 ∧ Kd.R k95 95 w' w.heap.size (fun _ => True) v2_ r3 ∧ Kd.R k29 29 w' w.heap.size (fun _ => True) v3_ r4 ∧ Below w.heap.size w w' := by
  have hu27 := Try.underlying27
  have hu92 := Try.underlying92
  have hu85 := Try.underlying85
  have hu95 := Try.underlying95
  have hu29 := Try.underlying29
  have HB := Aside0.mk (Below.refl w.heap.size w)
  have H : ((shambleslaw01_span.f (-20) 20).bind fun bt103 => ((shambleslaw01_span.f (-10) 10).bind fun bt105 => ((shambleslaw01_span.f 3 5).bind fun bt110 => ((shambleslaw01_span.f (-9) (-7)).bind fun bt112 => ((shambleslaw01_span.f (-5) 5).bind fun bt117 => ((shambleslaw01_span.f (-1) 2).bind fun bt119 => (some ((([(⟨1000, (⟨0, 0⟩ : S50)⟩ : S92), (⟨1000, (⟨bt103.1, bt103.2⟩ : S50)⟩ : S92), (⟨500, (⟨bt105.1, bt105.2⟩ : S50)⟩ : S92)] : List (S92))), (([(⟨1, 0, (⟨bt110.1, bt110.2⟩ : S50)⟩ : S85), (⟨2, 1, (⟨bt112.1, bt112.2⟩ : S50)⟩ : S85)] : List (S85))), (([(⟨(⟨bt117.1, bt117.2⟩ : S50), (⟨bt119.1, bt119.2⟩ : S50)⟩ : S95)] : List (S95))), (([(⟨0, 2, 1, 1010⟩ : S29)] : List (S29))), 4)))))))) = some (r1, r2, r3, r4, r5) := h
  clear h
  replace H := Option.bind_eq_some_iff.mp H
  obtain ⟨⟨t103, t104⟩, A10, H⟩ := H
  replace H : ((shambleslaw01_span.f (-10) 10).bind fun bt105 => ((shambleslaw01_span.f 3 5).bind fun bt110 => ((shambleslaw01_span.f (-9) (-7)).bind fun bt112 => ((shambleslaw01_span.f (-5) 5).bind fun bt117 => ((shambleslaw01_span.f (-1) 2).bind fun bt119 => (some ((([(⟨1000, (⟨0, 0⟩ : S50)⟩ : S92), (⟨1000, (⟨t103, t104⟩ : S50)⟩ : S92), (⟨500, (⟨bt105.1, bt105.2⟩ : S50)⟩ : S92)] : List (S92))), (([(⟨1, 0, (⟨bt110.1, bt110.2⟩ : S50)⟩ : S85), (⟨2, 1, (⟨bt112.1, bt112.2⟩ : S50)⟩ : S85)] : List (S85))), (([(⟨(⟨bt117.1, bt117.2⟩ : S50), (⟨bt119.1, bt119.2⟩ : S50)⟩ : S95)] : List (S95))), (([(⟨0, 2, 1, 1010⟩ : S29)] : List (S29))), 4))))))) = some (r1, r2, r3, r4, r5) := H
  have A1 := Aside0.mk A10
  clear A10
  replace H := Option.bind_eq_some_iff.mp H
  obtain ⟨⟨t105, t106⟩, A20, H⟩ := H
  replace H : ((shambleslaw01_span.f 3 5).bind fun bt110 => ((shambleslaw01_span.f (-9) (-7)).bind fun bt112 => ((shambleslaw01_span.f (-5) 5).bind fun bt117 => ((shambleslaw01_span.f (-1) 2).bind fun bt119 => (some ((([(⟨1000, (⟨0, 0⟩ : S50)⟩ : S92), (⟨1000, (⟨t103, t104⟩ : S50)⟩ : S92), (⟨500, (⟨t105, t106⟩ : S50)⟩ : S92)] : List (S92))), (([(⟨1, 0, (⟨bt110.1, bt110.2⟩ : S50)⟩ : S85), (⟨2, 1, (⟨bt112.1, bt112.2⟩ : S50)⟩ : S85)] : List (S85))), (([(⟨(⟨bt117.1, bt117.2⟩ : S50), (⟨bt119.1, bt119.2⟩ : S50)⟩ : S95)] : List (S95))), (([(⟨0, 2, 1, 1010⟩ : S29)] : List (S29))), 4)))))) = some (r1, r2, r3, r4, r5) := H
  have A2 := Aside0.mk A20
  clear A20
  obtain ⟨y107, hy107⟩ : ∃ y_ : List (S92), y_ = (([(⟨1000, (⟨0, 0⟩ : S50)⟩ : S92), (⟨1000, (⟨t103, t104⟩ : S50)⟩ : S92), (⟨500, (⟨t105, t106⟩ : S50)⟩ : S92)] : List (S92))) := ⟨_, rfl⟩
  replace H : ((shambleslaw01_span.f 3 5).bind fun bt110 => ((shambleslaw01_span.f (-9) (-7)).bind fun bt112 => ((shambleslaw01_span.f (-5) 5).bind fun bt117 => ((shambleslaw01_span.f (-1) 2).bind fun bt119 => (some (y107, (([(⟨1, 0, (⟨bt110.1, bt110.2⟩ : S50)⟩ : S85), (⟨2, 1, (⟨bt112.1, bt112.2⟩ : S50)⟩ : S85)] : List (S85))), (([(⟨(⟨bt117.1, bt117.2⟩ : S50), (⟨bt119.1, bt119.2⟩ : S50)⟩ : S95)] : List (S95))), (([(⟨0, 2, 1, 1010⟩ : S29)] : List (S29))), 4)))))) = some (r1, r2, r3, r4, r5) := by first | (rw [hy107]; with_reducible exact H) | (have H2_ := (Option.bind_some _ _).symm.trans H; rw [hy107]; with_reducible exact H2_) | (have H2_ := (Option.bind_some _ _).symm.trans H; with_reducible exact H2_) | with_reducible exact H | (rw [hy107]; exact H) | exact H
  have Ny107 := Aside0.mk hy107
  clear hy107
  replace H := Option.bind_eq_some_iff.mp H
  obtain ⟨⟨t110, t111⟩, A30, H⟩ := H
  replace H : ((shambleslaw01_span.f (-9) (-7)).bind fun bt112 => ((shambleslaw01_span.f (-5) 5).bind fun bt117 => ((shambleslaw01_span.f (-1) 2).bind fun bt119 => (some (y107, (([(⟨1, 0, (⟨t110, t111⟩ : S50)⟩ : S85), (⟨2, 1, (⟨bt112.1, bt112.2⟩ : S50)⟩ : S85)] : List (S85))), (([(⟨(⟨bt117.1, bt117.2⟩ : S50), (⟨bt119.1, bt119.2⟩ : S50)⟩ : S95)] : List (S95))), (([(⟨0, 2, 1, 1010⟩ : S29)] : List (S29))), 4))))) = some (r1, r2, r3, r4, r5) := H
  have A3 := Aside0.mk A30
  clear A30
  replace H := Option.bind_eq_some_iff.mp H
  obtain ⟨⟨t112, t113⟩, A40, H⟩ := H
  replace H : ((shambleslaw01_span.f (-5) 5).bind fun bt117 => ((shambleslaw01_span.f (-1) 2).bind fun bt119 => (some (y107, (([(⟨1, 0, (⟨t110, t111⟩ : S50)⟩ : S85), (⟨2, 1, (⟨t112, t113⟩ : S50)⟩ : S85)] : List (S85))), (([(⟨(⟨bt117.1, bt117.2⟩ : S50), (⟨bt119.1, bt119.2⟩ : S50)⟩ : S95)] : List (S95))), (([(⟨0, 2, 1, 1010⟩ : S29)] : List (S29))), 4)))) = some (r1, r2, r3, r4, r5) := H
  have A4 := Aside0.mk A40
  clear A40
  obtain ⟨y114, hy114⟩ : ∃ y_ : List (S85), y_ = (([(⟨1, 0, (⟨t110, t111⟩ : S50)⟩ : S85), (⟨2, 1, (⟨t112, t113⟩ : S50)⟩ : S85)] : List (S85))) := ⟨_, rfl⟩
  replace H : ((shambleslaw01_span.f (-5) 5).bind fun bt117 => ((shambleslaw01_span.f (-1) 2).bind fun bt119 => (some (y107, y114, (([(⟨(⟨bt117.1, bt117.2⟩ : S50), (⟨bt119.1, bt119.2⟩ : S50)⟩ : S95)] : List (S95))), (([(⟨0, 2, 1, 1010⟩ : S29)] : List (S29))), 4)))) = some (r1, r2, r3, r4, r5) := by first | (rw [hy114]; with_reducible exact H) | (have H2_ := (Option.bind_some _ _).symm.trans H; rw [hy114]; with_reducible exact H2_) | (have H2_ := (Option.bind_some _ _).symm.trans H; with_reducible exact H2_) | with_reducible exact H | (rw [hy114]; exact H) | exact H
  have Ny114 := Aside0.mk hy114
  clear hy114
  replace H := Option.bind_eq_some_iff.mp H
  obtain ⟨⟨t117, t118⟩, A50, H⟩ := H
  replace H : ((shambleslaw01_span.f (-1) 2).bind fun bt119 => (some (y107, y114, (([(⟨(⟨t117, t118⟩ : S50), (⟨bt119.1, bt119.2⟩ : S50)⟩ : S95)] : List (S95))), (([(⟨0, 2, 1, 1010⟩ : S29)] : List (S29))), 4))) = some (r1, r2, r3, r4, r5) := H
  have A5 := Aside0.mk A50
  clear A50
  replace H := Option.bind_eq_some_iff.mp H
  obtain ⟨⟨t119, t120⟩, A60, H⟩ := H
  replace H : (some (y107, y114, (([(⟨(⟨t117, t118⟩ : S50), (⟨t119, t120⟩ : S50)⟩ : S95)] : List (S95))), (([(⟨0, 2, 1, 1010⟩ : S29)] : List (S29))), 4)) = some (r1, r2, r3, r4, r5) := H
  have A6 := Aside0.mk A60
  clear A60
  obtain ⟨y121, hy121⟩ : ∃ y_ : List (S95), y_ = (([(⟨(⟨t117, t118⟩ : S50), (⟨t119, t120⟩ : S50)⟩ : S95)] : List (S95))) := ⟨_, rfl⟩
  replace H : (some (y107, y114, y121, (([(⟨0, 2, 1, 1010⟩ : S29)] : List (S29))), 4)) = some (r1, r2, r3, r4, r5) := by first | (rw [hy121]; with_reducible exact H) | (have H2_ := (Option.bind_some _ _).symm.trans H; rw [hy121]; with_reducible exact H2_) | (have H2_ := (Option.bind_some _ _).symm.trans H; with_reducible exact H2_) | with_reducible exact H | (rw [hy121]; exact H) | exact H
  have Ny121 := Aside0.mk hy121
  clear hy121
  obtain ⟨y124, hy124⟩ : ∃ y_ : List (S29), y_ = (([(⟨0, 2, 1, 1010⟩ : S29)] : List (S29))) := ⟨_, rfl⟩
  replace H : (some (y107, y114, y121, y124, 4)) = some (r1, r2, r3, r4, r5) := by first | (rw [hy124]; with_reducible exact H) | (have H2_ := (Option.bind_some _ _).symm.trans H; rw [hy124]; with_reducible exact H2_) | (have H2_ := (Option.bind_some _ _).symm.trans H; with_reducible exact H2_) | with_reducible exact H | (rw [hy124]; exact H) | exact H
  have Ny124 := Aside0.mk hy124
  clear hy124
  simp only [Option.some.injEq, Prod.mk.injEq] at H
  obtain ⟨rfl, rfl, rfl, rfl, rfl⟩ := H
  go_enter Try.func56, Try.ntmps56
  go_wp2_with (first | ((with_reducible refine gate_dst (N := 0) rfl ?_); refine box_event ?hg (N := 0) ?hd (cs := #[.slice none 0 0, .slice none 0 0, .slice none 0 0, .slice none 0 0, .int .i64 0]) (t := 27) ?hr ?_; (case hd => rfl); (case hg => rfl); (case hr => first | (go_simp; done) | (go_simp; rfl)); intro gb102 hg w7 hbox hb; have n0_ := Aside0.mk (below_step (by repeat (first | (with_reducible first | exact HB.out | apply below_alloc | apply pw_below_drewN | apply below_drew1) | exact HB.out)) hb); have n1_ := Aside0.mk (hbox); have n2_ := Aside0.mk ((by rw [hg]; exact (below_size (by repeat (first | (with_reducible first | exact HB.out | apply below_alloc | apply pw_below_drewN | apply below_drew1) | exact HB.out))) : w.heap.size ≤ gb102)); have n3_ := Aside0.mk ((by rw [hg]; exact (below_size (by repeat (first | (with_reducible first | exact HB.out | apply below_alloc | apply pw_below_drewN | apply below_drew1) | exact HB.out))) : w.heap.size ≤ gb102)); clear HB; have HB := n0_; have BK102 := n1_; have GW102 := n2_; have GE102 := n3_; clear n0_ n1_ n2_ n3_; clear hb hbox hg) | ((with_reducible refine gate_callee (f := 45) rfl ?_); refine goesL_ (some 2) rfl rfl Try.func45 (by kernel_rfl) rfl #[.int .i64 (-20), .int .i64 20] rfl (by (try simp only [List.map_toArray, List.map_cons, List.map_nil]); first | done | rfl | (simp only [List.length_drop, List.length_take]; rfl)) ?_; (with_reducible refine (shambleslaw01_span.calls (-20) 20 t103 t104 _ A1.out).mono ?_); rintro e w8 ⟨rfl, hb⟩; refine ⟨_, rfl, ?_⟩; have n0_ := Aside0.mk (blk_below (g := gb102) (o := .cells #[.slice none 0 0, .slice none 0 0, .slice none 0 0, .slice none 0 0, .int .i64 0] 27 (0, 0)) (by (with_reducible repeat (first | refine blk_drewN ?_ _ | refine blk_drew ?_ | refine blk_alloc ?_ _)); exact BK102.out) hb); have n1_ := Aside0.mk (below_step (by repeat (first | (with_reducible first | exact HB.out | apply below_alloc | apply pw_below_drewN | apply below_drew1 | refine below_set ?_ GE102.out) | exact HB.out)) hb); clear BK102; clear HB; have BK102 := n0_; have HB := n1_; clear n0_ n1_; (try clear hb); (try clear hb2); (try clear hk); (try clear hi)) | ((with_reducible refine gate_callee (f := 45) rfl ?_); refine goesL_ (some 4) rfl rfl Try.func45 (by kernel_rfl) rfl #[.int .i64 (-10), .int .i64 10] rfl (by (try simp only [List.map_toArray, List.map_cons, List.map_nil]); first | done | rfl | (simp only [List.length_drop, List.length_take]; rfl)) ?_; (with_reducible refine (shambleslaw01_span.calls (-10) 10 t105 t106 _ A2.out).mono ?_); rintro e w9 ⟨rfl, hb⟩; refine ⟨_, rfl, ?_⟩; have n0_ := Aside0.mk (blk_below (g := gb102) (o := .cells #[.slice none 0 0, .slice none 0 0, .slice none 0 0, .slice none 0 0, .int .i64 0] 27 (0, 0)) (by (with_reducible repeat (first | refine blk_drewN ?_ _ | refine blk_drew ?_ | refine blk_alloc ?_ _)); exact BK102.out) hb); have n1_ := Aside0.mk (below_step (by repeat (first | (with_reducible first | exact HB.out | apply below_alloc | apply pw_below_drewN | apply below_drew1 | refine below_set ?_ GE102.out) | exact HB.out)) hb); clear BK102; clear HB; have BK102 := n0_; have HB := n1_; clear n0_ n1_; (try clear hb); (try clear hb2); (try clear hk); (try clear hi)) | ((with_reducible refine gate_dst (N := 6) rfl ?_); refine Kd.R_lit k92 _ 92 ?hg (N := 6) ?hd (xs := ([(⟨1000, (⟨0, 0⟩ : S50)⟩ : S92), (⟨1000, (⟨t103, t104⟩ : S50)⟩ : S92), (⟨500, (⟨t105, t106⟩ : S50)⟩ : S92)] : List (S92))) (inner := [.int .i64 1000, .int .i64 0, .int .i64 0, .int .i64 1000, .int .i64 t103, .int .i64 t104, .int .i64 500, .int .i64 t105, .int .i64 t106]) (ok := fun _ => True) (okp := fun _ => True) ?hr ?hp (fun _ hk => hk) trivial (Below.refl _ _) (Nat.le_refl _) (by simp) ?_; (case hd => rfl); (case hg => rfl); (case hr => first | (go_simp; done) | (go_simp; rfl)); (case hp => exact (Reps.c3 (show Kd.M k92 _ _ _ (⟨1000, (⟨0, 0⟩ : S50)⟩ : S92) [.int .i64 1000, .int .i64 0, .int .i64 0] from (k92_mkM _ _ _ (⟨1000, (⟨0, 0⟩ : S50)⟩ : S92) )) (Reps.c3 (show Kd.M k92 _ _ _ (⟨1000, (⟨t103, t104⟩ : S50)⟩ : S92) [.int .i64 1000, .int .i64 t103, .int .i64 t104] from (k92_mkM _ _ _ (⟨1000, (⟨t103, t104⟩ : S50)⟩ : S92) )) (Reps.c3 (show Kd.M k92 _ _ _ (⟨500, (⟨t105, t106⟩ : S50)⟩ : S92) [.int .i64 500, .int .i64 t105, .int .i64 t106] from (k92_mkM _ _ _ (⟨500, (⟨t105, t106⟩ : S50)⟩ : S92) )) (Reps.none _ _))))); intro v108 w10 ho11 hb hg_ hnew_; clear hg_ hnew_; (first | rw [← Ny107.out] at ho11 | (simp only [Int.reduceToNat] at ho11; rw [← Ny107.out] at ho11)); have n0_ := Aside0.mk (Kd.R_lower ho11 (below_size (by repeat (first | (with_reducible first | exact HB.out | apply below_alloc | apply pw_below_drewN | apply below_drew1 | refine below_set ?_ GE102.out) | exact HB.out)))); have n1_ := Aside0.mk (blk_below (g := gb102) (o := .cells #[.slice none 0 0, .slice none 0 0, .slice none 0 0, .slice none 0 0, .int .i64 0] 27 (0, 0)) (by (with_reducible repeat (first | refine blk_drewN ?_ _ | refine blk_drew ?_ | refine blk_alloc ?_ _)); exact BK102.out) hb); have n2_ := Aside0.mk (below_step (by repeat (first | (with_reducible first | exact HB.out | apply below_alloc | apply pw_below_drewN | apply below_drew1 | refine below_set ?_ GE102.out) | exact HB.out)) hb); clear BK102; clear HB; have HO109 := n0_; have BK102 := n1_; have HB := n2_; clear n0_ n1_ n2_; clear hb ho11) | ((with_reducible refine gate_callee (f := 45) rfl ?_); refine goesL_ (some 7) rfl rfl Try.func45 (by kernel_rfl) rfl #[.int .i64 3, .int .i64 5] rfl (by (try simp only [List.map_toArray, List.map_cons, List.map_nil]); first | done | rfl | (simp only [List.length_drop, List.length_take]; rfl)) ?_; (with_reducible refine (shambleslaw01_span.calls 3 5 t110 t111 _ A3.out).mono ?_); rintro e w12 ⟨rfl, hb⟩; refine ⟨_, rfl, ?_⟩; have n0_ := Aside0.mk (Kd.R_below (by (with_reducible repeat (first | apply Kd.R_alloc | apply Kd.R_drewN | apply Kd.R_drew)); exact HO109.out) hb); have n1_ := Aside0.mk (blk_below (g := gb102) (o := .cells #[.slice none 0 0, .slice none 0 0, .slice none 0 0, .slice none 0 0, .int .i64 0] 27 (0, 0)) (by (with_reducible repeat (first | refine blk_drewN ?_ _ | refine blk_drew ?_ | refine blk_alloc ?_ _)); exact BK102.out) hb); have n2_ := Aside0.mk (below_step (by repeat (first | (with_reducible first | exact HB.out | apply below_alloc | apply pw_below_drewN | apply below_drew1 | refine below_set ?_ GE102.out) | exact HB.out)) hb); clear HO109; clear BK102; clear HB; have HO109 := n0_; have BK102 := n1_; have HB := n2_; clear n0_ n1_ n2_; (try clear hb); (try clear hb2); (try clear hk); (try clear hi)) | ((with_reducible refine gate_callee (f := 45) rfl ?_); refine goesL_ (some 9) rfl rfl Try.func45 (by kernel_rfl) rfl #[.int .i64 (-9), .int .i64 (-7)] rfl (by (try simp only [List.map_toArray, List.map_cons, List.map_nil]); first | done | rfl | (simp only [List.length_drop, List.length_take]; rfl)) ?_; (with_reducible refine (shambleslaw01_span.calls (-9) (-7) t112 t113 _ A4.out).mono ?_); rintro e w13 ⟨rfl, hb⟩; refine ⟨_, rfl, ?_⟩; have n0_ := Aside0.mk (Kd.R_below (by (with_reducible repeat (first | apply Kd.R_alloc | apply Kd.R_drewN | apply Kd.R_drew)); exact HO109.out) hb); have n1_ := Aside0.mk (blk_below (g := gb102) (o := .cells #[.slice none 0 0, .slice none 0 0, .slice none 0 0, .slice none 0 0, .int .i64 0] 27 (0, 0)) (by (with_reducible repeat (first | refine blk_drewN ?_ _ | refine blk_drew ?_ | refine blk_alloc ?_ _)); exact BK102.out) hb); have n2_ := Aside0.mk (below_step (by repeat (first | (with_reducible first | exact HB.out | apply below_alloc | apply pw_below_drewN | apply below_drew1 | refine below_set ?_ GE102.out) | exact HB.out)) hb); clear HO109; clear BK102; clear HB; have HO109 := n0_; have BK102 := n1_; have HB := n2_; clear n0_ n1_ n2_; (try clear hb); (try clear hb2); (try clear hk); (try clear hi)) | ((with_reducible refine gate_dst (N := 11) rfl ?_); refine Kd.R_lit k85 _ 85 ?hg (N := 11) ?hd (xs := ([(⟨1, 0, (⟨t110, t111⟩ : S50)⟩ : S85), (⟨2, 1, (⟨t112, t113⟩ : S50)⟩ : S85)] : List (S85))) (inner := [.int .i64 1, .int .i64 0, .int .i64 t110, .int .i64 t111, .int .i64 2, .int .i64 1, .int .i64 t112, .int .i64 t113]) (ok := fun _ => True) (okp := fun _ => True) ?hr ?hp (fun _ hk => hk) trivial (Below.refl _ _) (Nat.le_refl _) (by simp) ?_; (case hd => rfl); (case hg => rfl); (case hr => first | (go_simp; done) | (go_simp; rfl)); (case hp => exact (Reps.c4 (show Kd.M k85 _ _ _ (⟨1, 0, (⟨t110, t111⟩ : S50)⟩ : S85) [.int .i64 1, .int .i64 0, .int .i64 t110, .int .i64 t111] from (k85_mkM _ _ _ (⟨1, 0, (⟨t110, t111⟩ : S50)⟩ : S85) )) (Reps.c4 (show Kd.M k85 _ _ _ (⟨2, 1, (⟨t112, t113⟩ : S50)⟩ : S85) [.int .i64 2, .int .i64 1, .int .i64 t112, .int .i64 t113] from (k85_mkM _ _ _ (⟨2, 1, (⟨t112, t113⟩ : S50)⟩ : S85) )) (Reps.none _ _)))); intro v115 w14 ho15 hb hg_ hnew_; clear hg_ hnew_; (first | rw [← Ny114.out] at ho15 | (simp only [Int.reduceToNat] at ho15; rw [← Ny114.out] at ho15)); have n0_ := Aside0.mk (Kd.R_below (by (with_reducible repeat (first | apply Kd.R_alloc | apply Kd.R_drewN | apply Kd.R_drew)); exact HO109.out) hb); have n1_ := Aside0.mk (Kd.R_lower ho15 (below_size (by repeat (first | (with_reducible first | exact HB.out | apply below_alloc | apply pw_below_drewN | apply below_drew1 | refine below_set ?_ GE102.out) | exact HB.out)))); have n2_ := Aside0.mk (blk_below (g := gb102) (o := .cells #[.slice none 0 0, .slice none 0 0, .slice none 0 0, .slice none 0 0, .int .i64 0] 27 (0, 0)) (by (with_reducible repeat (first | refine blk_drewN ?_ _ | refine blk_drew ?_ | refine blk_alloc ?_ _)); exact BK102.out) hb); have n3_ := Aside0.mk (below_step (by repeat (first | (with_reducible first | exact HB.out | apply below_alloc | apply pw_below_drewN | apply below_drew1 | refine below_set ?_ GE102.out) | exact HB.out)) hb); clear HO109; clear BK102; clear HB; have HO109 := n0_; have HO116 := n1_; have BK102 := n2_; have HB := n3_; clear n0_ n1_ n2_ n3_; clear hb ho15) | ((with_reducible refine gate_callee (f := 45) rfl ?_); refine goesL_ (some 12) rfl rfl Try.func45 (by kernel_rfl) rfl #[.int .i64 (-5), .int .i64 5] rfl (by (try simp only [List.map_toArray, List.map_cons, List.map_nil]); first | done | rfl | (simp only [List.length_drop, List.length_take]; rfl)) ?_; (with_reducible refine (shambleslaw01_span.calls (-5) 5 t117 t118 _ A5.out).mono ?_); rintro e w16 ⟨rfl, hb⟩; refine ⟨_, rfl, ?_⟩; have n0_ := Aside0.mk (Kd.R_below (by (with_reducible repeat (first | apply Kd.R_alloc | apply Kd.R_drewN | apply Kd.R_drew)); exact HO109.out) hb); have n1_ := Aside0.mk (Kd.R_below (by (with_reducible repeat (first | apply Kd.R_alloc | apply Kd.R_drewN | apply Kd.R_drew)); exact HO116.out) hb); have n2_ := Aside0.mk (blk_below (g := gb102) (o := .cells #[.slice none 0 0, .slice none 0 0, .slice none 0 0, .slice none 0 0, .int .i64 0] 27 (0, 0)) (by (with_reducible repeat (first | refine blk_drewN ?_ _ | refine blk_drew ?_ | refine blk_alloc ?_ _)); exact BK102.out) hb); have n3_ := Aside0.mk (below_step (by repeat (first | (with_reducible first | exact HB.out | apply below_alloc | apply pw_below_drewN | apply below_drew1 | refine below_set ?_ GE102.out) | exact HB.out)) hb); clear HO109; clear HO116; clear BK102; clear HB; have HO109 := n0_; have HO116 := n1_; have BK102 := n2_; have HB := n3_; clear n0_ n1_ n2_ n3_; (try clear hb); (try clear hb2); (try clear hk); (try clear hi)) | ((with_reducible refine gate_callee (f := 45) rfl ?_); refine goesL_ (some 13) rfl rfl Try.func45 (by kernel_rfl) rfl #[.int .i64 (-1), .int .i64 2] rfl (by (try simp only [List.map_toArray, List.map_cons, List.map_nil]); first | done | rfl | (simp only [List.length_drop, List.length_take]; rfl)) ?_; (with_reducible refine (shambleslaw01_span.calls (-1) 2 t119 t120 _ A6.out).mono ?_); rintro e w17 ⟨rfl, hb⟩; refine ⟨_, rfl, ?_⟩; have n0_ := Aside0.mk (Kd.R_below (by (with_reducible repeat (first | apply Kd.R_alloc | apply Kd.R_drewN | apply Kd.R_drew)); exact HO109.out) hb); have n1_ := Aside0.mk (Kd.R_below (by (with_reducible repeat (first | apply Kd.R_alloc | apply Kd.R_drewN | apply Kd.R_drew)); exact HO116.out) hb); have n2_ := Aside0.mk (blk_below (g := gb102) (o := .cells #[.slice none 0 0, .slice none 0 0, .slice none 0 0, .slice none 0 0, .int .i64 0] 27 (0, 0)) (by (with_reducible repeat (first | refine blk_drewN ?_ _ | refine blk_drew ?_ | refine blk_alloc ?_ _)); exact BK102.out) hb); have n3_ := Aside0.mk (below_step (by repeat (first | (with_reducible first | exact HB.out | apply below_alloc | apply pw_below_drewN | apply below_drew1 | refine below_set ?_ GE102.out) | exact HB.out)) hb); clear HO109; clear HO116; clear BK102; clear HB; have HO109 := n0_; have HO116 := n1_; have BK102 := n2_; have HB := n3_; clear n0_ n1_ n2_ n3_; (try clear hb); (try clear hb2); (try clear hk); (try clear hi)) | ((with_reducible refine gate_dst (N := 15) rfl ?_); refine Kd.R_lit k95 _ 95 ?hg (N := 15) ?hd (xs := ([(⟨(⟨t117, t118⟩ : S50), (⟨t119, t120⟩ : S50)⟩ : S95)] : List (S95))) (inner := [.int .i64 t117, .int .i64 t118, .int .i64 t119, .int .i64 t120]) (ok := fun _ => True) (okp := fun _ => True) ?hr ?hp (fun _ hk => hk) trivial (Below.refl _ _) (Nat.le_refl _) (by simp) ?_; (case hd => rfl); (case hg => rfl); (case hr => first | (go_simp; done) | (go_simp; rfl)); (case hp => exact (Reps.c4 (show Kd.M k95 _ _ _ (⟨(⟨t117, t118⟩ : S50), (⟨t119, t120⟩ : S50)⟩ : S95) [.int .i64 t117, .int .i64 t118, .int .i64 t119, .int .i64 t120] from (k95_mkM _ _ _ (⟨(⟨t117, t118⟩ : S50), (⟨t119, t120⟩ : S50)⟩ : S95) )) (Reps.none _ _))); intro v122 w18 ho19 hb hg_ hnew_; clear hg_ hnew_; (first | rw [← Ny121.out] at ho19 | (simp only [Int.reduceToNat] at ho19; rw [← Ny121.out] at ho19)); have n0_ := Aside0.mk (Kd.R_below (by (with_reducible repeat (first | apply Kd.R_alloc | apply Kd.R_drewN | apply Kd.R_drew)); exact HO109.out) hb); have n1_ := Aside0.mk (Kd.R_below (by (with_reducible repeat (first | apply Kd.R_alloc | apply Kd.R_drewN | apply Kd.R_drew)); exact HO116.out) hb); have n2_ := Aside0.mk (Kd.R_lower ho19 (below_size (by repeat (first | (with_reducible first | exact HB.out | apply below_alloc | apply pw_below_drewN | apply below_drew1 | refine below_set ?_ GE102.out) | exact HB.out)))); have n3_ := Aside0.mk (blk_below (g := gb102) (o := .cells #[.slice none 0 0, .slice none 0 0, .slice none 0 0, .slice none 0 0, .int .i64 0] 27 (0, 0)) (by (with_reducible repeat (first | refine blk_drewN ?_ _ | refine blk_drew ?_ | refine blk_alloc ?_ _)); exact BK102.out) hb); have n4_ := Aside0.mk (below_step (by repeat (first | (with_reducible first | exact HB.out | apply below_alloc | apply pw_below_drewN | apply below_drew1 | refine below_set ?_ GE102.out) | exact HB.out)) hb); clear HO109; clear HO116; clear BK102; clear HB; have HO109 := n0_; have HO116 := n1_; have HO123 := n2_; have BK102 := n3_; have HB := n4_; clear n0_ n1_ n2_ n3_ n4_; clear hb ho19) | ((with_reducible refine gate_dst (N := 17) rfl ?_); refine Kd.R_lit k29 _ 29 ?hg (N := 17) ?hd (xs := ([(⟨0, 2, 1, 1010⟩ : S29)] : List (S29))) (inner := [.int .i64 0, .int .i64 2, .int .i64 1, .int .i64 1010]) (ok := fun _ => True) (okp := fun _ => True) ?hr ?hp (fun _ hk => hk) trivial (Below.refl _ _) (Nat.le_refl _) (by simp) ?_; (case hd => rfl); (case hg => rfl); (case hr => first | (go_simp; done) | (go_simp; rfl)); (case hp => exact (Reps.c4 (show Kd.M k29 _ _ _ (⟨0, 2, 1, 1010⟩ : S29) [.int .i64 0, .int .i64 2, .int .i64 1, .int .i64 1010] from (k29_mkM _ _ _ (⟨0, 2, 1, 1010⟩ : S29) )) (Reps.none _ _))); intro v125 w20 ho21 hb hg_ hnew_; clear hg_ hnew_; (first | rw [← Ny124.out] at ho21 | (simp only [Int.reduceToNat] at ho21; rw [← Ny124.out] at ho21)); have n0_ := Aside0.mk (Kd.R_below (by (with_reducible repeat (first | apply Kd.R_alloc | apply Kd.R_drewN | apply Kd.R_drew)); exact HO109.out) hb); have n1_ := Aside0.mk (Kd.R_below (by (with_reducible repeat (first | apply Kd.R_alloc | apply Kd.R_drewN | apply Kd.R_drew)); exact HO116.out) hb); have n2_ := Aside0.mk (Kd.R_below (by (with_reducible repeat (first | apply Kd.R_alloc | apply Kd.R_drewN | apply Kd.R_drew)); exact HO123.out) hb); have n3_ := Aside0.mk (Kd.R_lower ho21 (below_size (by repeat (first | (with_reducible first | exact HB.out | apply below_alloc | apply pw_below_drewN | apply below_drew1 | refine below_set ?_ GE102.out) | exact HB.out)))); have n4_ := Aside0.mk (blk_below (g := gb102) (o := .cells #[.slice none 0 0, .slice none 0 0, .slice none 0 0, .slice none 0 0, .int .i64 0] 27 (0, 0)) (by (with_reducible repeat (first | refine blk_drewN ?_ _ | refine blk_drew ?_ | refine blk_alloc ?_ _)); exact BK102.out) hb); have n5_ := Aside0.mk (below_step (by repeat (first | (with_reducible first | exact HB.out | apply below_alloc | apply pw_below_drewN | apply below_drew1 | refine below_set ?_ GE102.out) | exact HB.out)) hb); clear HO109; clear HO116; clear HO123; clear BK102; clear HB; have HO109 := n0_; have HO116 := n1_; have HO123 := n2_; have HO126 := n3_; have BK102 := n4_; have HB := n5_; clear n0_ n1_ n2_ n3_ n4_ n5_; clear hb ho21; obtain ⟨Ao22, co22, eo22⟩ := Kd.R_slice HO126.out; subst eo22; obtain ⟨Ao23, co23, eo23⟩ := Kd.R_slice HO123.out; subst eo23; obtain ⟨Ao24, co24, eo24⟩ := Kd.R_slice HO116.out; subst eo24; obtain ⟨Ao25, co25, eo25⟩ := Kd.R_slice HO109.out; subst eo25; have hcz26_0 : w20.cell? ⟨gb102, 0, none⟩ = some (.slice none 0 0) := (blk_cell BK102.out 0).trans rfl; have hcz26_1 : w20.cell? ⟨gb102, 1, none⟩ = some (.slice none 0 0) := (blk_cell BK102.out 1).trans rfl; have hcz26_2 : w20.cell? ⟨gb102, 2, none⟩ = some (.slice none 0 0) := (blk_cell BK102.out 2).trans rfl; have hcz26_3 : w20.cell? ⟨gb102, 3, none⟩ = some (.slice none 0 0) := (blk_cell BK102.out 3).trans rfl; have hcz26_4 : w20.cell? ⟨gb102, 4, none⟩ = some (.int .i64 0) := (blk_cell BK102.out 4).trans rfl; have hfz26_0 := blk_frozen BK102.out 0; have hfz26_1 := blk_frozen BK102.out 1; have hfz26_2 := blk_frozen BK102.out 2; have hfz26_3 := blk_frozen BK102.out 3; have hfz26_4 := blk_frozen BK102.out 4))
  refine bodyPost_ret (results_cell_row rfl _ _ gb102 27 #[.slice Ao25 y107.length co25, .slice Ao24 y114.length co24, .slice Ao23 y121.length co23, .slice Ao22 y124.length co22, .int .i64 4] (0, 0) _ rfl (by (with_reducible repeat (first | refine blk_drewN ?_ _ | refine blk_drew ?_ | refine blk_alloc ?_ _)); refine blk_put (cs := #[.slice Ao25 y107.length co25, .slice Ao24 y114.length co24, .slice Ao23 y121.length co23, .slice Ao22 y124.length co22, .int .i64 0]) ?_ 4 _ rfl; (with_reducible repeat (first | refine blk_drewN ?_ _ | refine blk_drew ?_ | refine blk_alloc ?_ _)); refine blk_put (cs := #[.slice Ao25 y107.length co25, .slice Ao24 y114.length co24, .slice Ao23 y121.length co23, .slice none 0 0, .int .i64 0]) ?_ 3 _ rfl; (with_reducible repeat (first | refine blk_drewN ?_ _ | refine blk_drew ?_ | refine blk_alloc ?_ _)); refine blk_put (cs := #[.slice Ao25 y107.length co25, .slice Ao24 y114.length co24, .slice none 0 0, .slice none 0 0, .int .i64 0]) ?_ 2 _ rfl; (with_reducible repeat (first | refine blk_drewN ?_ _ | refine blk_drew ?_ | refine blk_alloc ?_ _)); refine blk_put (cs := #[.slice Ao25 y107.length co25, .slice none 0 0, .slice none 0 0, .slice none 0 0, .int .i64 0]) ?_ 1 _ rfl; (with_reducible repeat (first | refine blk_drewN ?_ _ | refine blk_drew ?_ | refine blk_alloc ?_ _)); refine blk_put (cs := #[.slice none 0 0, .slice none 0 0, .slice none 0 0, .slice none 0 0, .int .i64 0]) ?_ 0 _ rfl; (with_reducible repeat (first | refine blk_drewN ?_ _ | refine blk_drew ?_ | refine blk_alloc ?_ _)); exact BK102.out) Try.underlying27 rfl (by kernel_rfl)) rfl ?_
  exact ⟨_, _, _, _, by first | rfl | (simp [errW_none, errW_some] <;> rfl) | (simp [*, errW_none, errW_some] <;> rfl), by (with_reducible repeat (first | apply Kd.R_alloc | apply Kd.R_drewN | apply Kd.R_drew)); exact Kd.R_mono (Kd.R_far (p := ⟨gb102, 4, none⟩) (Kd.R_far (p := ⟨gb102, 3, none⟩) (Kd.R_far (p := ⟨gb102, 2, none⟩) (Kd.R_far (p := ⟨gb102, 1, none⟩) (Kd.R_far (p := ⟨gb102, 0, none⟩) (Kd.R_types HO109.out BK102.out (by decide)) (fun _ hk => hk.2) (.slice Ao25 y107.length co25)) (fun _ hk => hk.2) (.slice Ao24 y114.length co24)) (fun _ hk => hk.2) (.slice Ao23 y121.length co23)) (fun _ hk => hk.2) (.slice Ao22 y124.length co22)) (fun _ hk => hk.2) (.int .i64 4)) (fun _ hk => trivial), by (with_reducible repeat (first | apply Kd.R_alloc | apply Kd.R_drewN | apply Kd.R_drew)); exact Kd.R_mono (Kd.R_far (p := ⟨gb102, 4, none⟩) (Kd.R_far (p := ⟨gb102, 3, none⟩) (Kd.R_far (p := ⟨gb102, 2, none⟩) (Kd.R_far (p := ⟨gb102, 1, none⟩) (Kd.R_far (p := ⟨gb102, 0, none⟩) (Kd.R_types HO116.out BK102.out (by decide)) (fun _ hk => hk.2) (.slice Ao25 y107.length co25)) (fun _ hk => hk.2) (.slice Ao24 y114.length co24)) (fun _ hk => hk.2) (.slice Ao23 y121.length co23)) (fun _ hk => hk.2) (.slice Ao22 y124.length co22)) (fun _ hk => hk.2) (.int .i64 4)) (fun _ hk => trivial), by (with_reducible repeat (first | apply Kd.R_alloc | apply Kd.R_drewN | apply Kd.R_drew)); exact Kd.R_mono (Kd.R_far (p := ⟨gb102, 4, none⟩) (Kd.R_far (p := ⟨gb102, 3, none⟩) (Kd.R_far (p := ⟨gb102, 2, none⟩) (Kd.R_far (p := ⟨gb102, 1, none⟩) (Kd.R_far (p := ⟨gb102, 0, none⟩) (Kd.R_types HO123.out BK102.out (by decide)) (fun _ hk => hk.2) (.slice Ao25 y107.length co25)) (fun _ hk => hk.2) (.slice Ao24 y114.length co24)) (fun _ hk => hk.2) (.slice Ao23 y121.length co23)) (fun _ hk => hk.2) (.slice Ao22 y124.length co22)) (fun _ hk => hk.2) (.int .i64 4)) (fun _ hk => trivial), by (with_reducible repeat (first | apply Kd.R_alloc | apply Kd.R_drewN | apply Kd.R_drew)); exact Kd.R_mono (Kd.R_far (p := ⟨gb102, 4, none⟩) (Kd.R_far (p := ⟨gb102, 3, none⟩) (Kd.R_far (p := ⟨gb102, 2, none⟩) (Kd.R_far (p := ⟨gb102, 1, none⟩) (Kd.R_far (p := ⟨gb102, 0, none⟩) (Kd.R_types HO126.out BK102.out (by decide)) (fun _ hk => hk.2) (.slice Ao25 y107.length co25)) (fun _ hk => hk.2) (.slice Ao24 y114.length co24)) (fun _ hk => hk.2) (.slice Ao23 y121.length co23)) (fun _ hk => hk.2) (.slice Ao22 y124.length co22)) (fun _ hk => hk.2) (.int .i64 4)) (fun _ hk => trivial), by repeat (first | (with_reducible first | exact HB.out | apply below_alloc | apply pw_below_drewN | apply below_drew1 | refine below_set ?_ GE102.out) | exact HB.out)⟩
def shambleslaw01_wrong.f  : Option ((List (S92)) × (List (S85)) × (List (S95)) × (List (S29)) × Int) := (shambleslaw01_bench.f).bind fun bt128 => (if bt128.2.2.2.1.length < 4398046511104 then (some (bt128.1, bt128.2.1, bt128.2.2.1, (bt128.2.2.2.1 ++ [(⟨0, 3, 0, 1011⟩ : S29)]), bt128.2.2.2.2)) else (none))
set_option maxHeartbeats 8000000 in
set_option maxRecDepth 100000 in
theorem shambleslaw01_wrong.calls  (r1 : List (S92)) (r2 : List (S85)) (r3 : List (S95)) (r4 : List (S29)) (r5 : Int) (w : World) (h : shambleslaw01_wrong.f  = some (r1, r2, r3, r4, r5)) :
    Calls Try.prog 57 #[] w fun e w' => ∃ v0_ v1_ v2_ v3_ : Value, e = .returned (.agg #[v0_, v1_, v2_, v3_, .int .i64 r5]) ∧ Kd.R k92 92 w' w.heap.size (fun _ => True) v0_ r1 ∧ Kd.R k85 85 w' w.heap.size (fun _ => True) v1_ r2 ∧ Kd.R k95 95 w' w.heap.size (fun _ => True) v2_ r3 ∧ Kd.R k29 29 w' w.heap.size (fun _ => True) v3_ r4 ∧ Below w.heap.size w w' := by
  have hu27 := Try.underlying27
  have hu29 := Try.underlying29
  have HB := Aside0.mk (Below.refl w.heap.size w)
  have H : ((shambleslaw01_bench.f).bind fun bt128 => (if bt128.2.2.2.1.length < 4398046511104 then (some (bt128.1, bt128.2.1, bt128.2.2.1, (bt128.2.2.2.1 ++ [(⟨0, 3, 0, 1011⟩ : S29)]), bt128.2.2.2.2)) else (none))) = some (r1, r2, r3, r4, r5) := h
  clear h
  replace H := Option.bind_eq_some_iff.mp H
  obtain ⟨⟨t128, t131, t134, t137, t140⟩, A10, H⟩ := H
  replace H : (if t137.length < 4398046511104 then (some (t128, t131, t134, (t137 ++ [(⟨0, 3, 0, 1011⟩ : S29)]), t140)) else (none)) = some (r1, r2, r3, r4, r5) := H
  have A1 := Aside0.mk A10
  clear A10
  by_cases c2 : t137.length < 4398046511104
  · rw [if_pos c2] at H
    have LMc2 := Aside0.mk c2
    clear c2
    obtain ⟨y142, hy142⟩ : ∃ y_ : List (S29), y_ = (t137 ++ [(⟨0, 3, 0, 1011⟩ : S29)]) := ⟨_, rfl⟩
    replace H : (some (t128, t131, t134, y142, t140)) = some (r1, r2, r3, r4, r5) := by first | (rw [hy142]; with_reducible exact H) | (have H2_ := (Option.bind_some _ _).symm.trans H; rw [hy142]; with_reducible exact H2_) | (have H2_ := (Option.bind_some _ _).symm.trans H; with_reducible exact H2_) | with_reducible exact H | (rw [hy142]; exact H) | exact H
    have Ny142 := Aside0.mk hy142
    clear hy142
    simp only [Option.some.injEq, Prod.mk.injEq] at H
    obtain ⟨rfl, rfl, rfl, rfl, rfl⟩ := H
    go_enter Try.func57, Try.ntmps57
    go_wp2_with (first | ((with_reducible refine gate_dst (N := 0) rfl ?_); refine box_event ?hg (N := 0) ?hd (cs := #[.slice none 0 0, .slice none 0 0, .slice none 0 0, .slice none 0 0, .int .i64 0]) (t := 27) ?hr ?_; (case hd => rfl); (case hg => rfl); (case hr => first | (go_simp; done) | (go_simp; rfl)); intro gb127 hg w3 hbox hb; have n0_ := Aside0.mk (below_step (by repeat (first | (with_reducible first | exact HB.out | apply below_alloc | apply pw_below_drewN | apply below_drew1) | exact HB.out)) hb); have n1_ := Aside0.mk (hbox); have n2_ := Aside0.mk ((by rw [hg]; exact (below_size (by repeat (first | (with_reducible first | exact HB.out | apply below_alloc | apply pw_below_drewN | apply below_drew1) | exact HB.out))) : w.heap.size ≤ gb127)); have n3_ := Aside0.mk ((by rw [hg]; exact (below_size (by repeat (first | (with_reducible first | exact HB.out | apply below_alloc | apply pw_below_drewN | apply below_drew1) | exact HB.out))) : w.heap.size ≤ gb127)); clear HB; have HB := n0_; have BK127 := n1_; have GW127 := n2_; have GE127 := n3_; clear n0_ n1_ n2_ n3_; clear hb hbox hg) | ((with_reducible refine gate_callee (f := 56) rfl ?_); refine goesL_ (some 2) rfl rfl Try.func56 (by kernel_rfl) rfl #[] rfl (by (try simp only [List.map_toArray, List.map_cons, List.map_nil]); first | done | rfl | (simp only [List.length_drop, List.length_take]; rfl)) ?_; (with_reducible refine (shambleslaw01_bench.calls  t128 t131 t134 t137 t140 _ A1.out).mono ?_); rintro e w4 ⟨v129, v132, v135, v138, rfl, ho0, ho1, ho2, ho3, hb⟩; refine ⟨_, rfl, ?_⟩; have n0_ := Aside0.mk (Kd.R_lower ho0 (below_size (by repeat (first | (with_reducible first | exact HB.out | apply below_alloc | apply pw_below_drewN | apply below_drew1 | refine below_set ?_ GE127.out) | exact HB.out)))); have n1_ := Aside0.mk (Kd.R_lower ho1 (below_size (by repeat (first | (with_reducible first | exact HB.out | apply below_alloc | apply pw_below_drewN | apply below_drew1 | refine below_set ?_ GE127.out) | exact HB.out)))); have n2_ := Aside0.mk (Kd.R_lower ho2 (below_size (by repeat (first | (with_reducible first | exact HB.out | apply below_alloc | apply pw_below_drewN | apply below_drew1 | refine below_set ?_ GE127.out) | exact HB.out)))); have n3_ := Aside0.mk (Kd.R_lower ho3 (below_size (by repeat (first | (with_reducible first | exact HB.out | apply below_alloc | apply pw_below_drewN | apply below_drew1 | refine below_set ?_ GE127.out) | exact HB.out)))); have n4_ := Aside0.mk (blk_below (g := gb127) (o := .cells #[.slice none 0 0, .slice none 0 0, .slice none 0 0, .slice none 0 0, .int .i64 0] 27 (0, 0)) (by (with_reducible repeat (first | refine blk_drewN ?_ _ | refine blk_drew ?_ | refine blk_alloc ?_ _)); exact BK127.out) hb); have n5_ := Aside0.mk (below_step (by repeat (first | (with_reducible first | exact HB.out | apply below_alloc | apply pw_below_drewN | apply below_drew1 | refine below_set ?_ GE127.out) | exact HB.out)) hb); clear BK127; clear HB; have HO130 := n0_; have HO133 := n1_; have HO136 := n2_; have HO139 := n3_; have BK127 := n4_; have HB := n5_; clear n0_ n1_ n2_ n3_ n4_ n5_; (try clear hb); (try clear hb2); (try clear hk); (try clear hi); (try clear ho0); (try clear ho1); (try clear ho2); (try clear ho3)) | ((with_reducible refine gate_dst (N := 1) rfl ?_); refine box_event ?hg (N := 1) ?hd (cs := #[.slice none 0 0, .slice none 0 0, .slice none 0 0, .slice none 0 0, .int .i64 0]) (t := 27) ?hr ?_; (case hd => rfl); (case hg => rfl); (case hr => first | (go_simp; done) | (go_simp; rfl)); intro gb141 hg w5 hbox hb; have n0_ := Aside0.mk (Kd.R_below (by (with_reducible repeat (first | apply Kd.R_alloc | apply Kd.R_drewN | apply Kd.R_drew)); exact HO130.out) hb); have n1_ := Aside0.mk (Kd.R_below (by (with_reducible repeat (first | apply Kd.R_alloc | apply Kd.R_drewN | apply Kd.R_drew)); exact HO133.out) hb); have n2_ := Aside0.mk (Kd.R_below (by (with_reducible repeat (first | apply Kd.R_alloc | apply Kd.R_drewN | apply Kd.R_drew)); exact HO136.out) hb); have n3_ := Aside0.mk (Kd.R_below (by (with_reducible repeat (first | apply Kd.R_alloc | apply Kd.R_drewN | apply Kd.R_drew)); exact HO139.out) hb); have n4_ := Aside0.mk (blk_below (g := gb127) (o := .cells #[.slice none 0 0, .slice none 0 0, .slice none 0 0, .slice none 0 0, .int .i64 0] 27 (0, 0)) (by (with_reducible repeat (first | refine blk_drewN ?_ _ | refine blk_drew ?_ | refine blk_alloc ?_ _)); exact BK127.out) hb); have n5_ := Aside0.mk (below_step (by repeat (first | (with_reducible first | exact HB.out | apply below_alloc | apply pw_below_drewN | apply below_drew1 | refine below_set ?_ GE127.out) | exact HB.out)) hb); have n6_ := Aside0.mk (hbox); have n7_ := Aside0.mk ((by rw [hg]; exact (below_size (by repeat (first | (with_reducible first | exact HB.out | apply below_alloc | apply pw_below_drewN | apply below_drew1 | refine below_set ?_ GE127.out) | exact HB.out))) : w.heap.size ≤ gb141)); have n8_ := Aside0.mk ((by rw [hg]; exact (below_size (by repeat (first | (with_reducible first | exact HB.out | apply below_alloc | apply pw_below_drewN | apply below_drew1 | refine below_set ?_ GE127.out) | exact HB.out))) : w.heap.size ≤ gb141)); have n9_ := Aside0.mk ((by rw [hg]; exact Nat.ne_of_lt (blk_lt (g := gb127) (o := .cells #[.slice none 0 0, .slice none 0 0, .slice none 0 0, .slice none 0 0, .int .i64 0] 27 (0, 0)) (by (with_reducible repeat (first | refine blk_drewN ?_ _ | refine blk_drew ?_ | refine blk_alloc ?_ _)); exact BK127.out)) : gb127 ≠ gb141)); have n10_ := Aside0.mk ((by rw [hg]; exact Nat.ne_of_gt (blk_lt (g := gb127) (o := .cells #[.slice none 0 0, .slice none 0 0, .slice none 0 0, .slice none 0 0, .int .i64 0] 27 (0, 0)) (by (with_reducible repeat (first | refine blk_drewN ?_ _ | refine blk_drew ?_ | refine blk_alloc ?_ _)); exact BK127.out)) : gb141 ≠ gb127)); clear HO130; clear HO133; clear HO136; clear HO139; clear BK127; clear HB; have HO130 := n0_; have HO133 := n1_; have HO136 := n2_; have HO139 := n3_; have BK127 := n4_; have HB := n5_; have BK141 := n6_; have GW141 := n7_; have GE141 := n8_; have NB127_141 := n9_; have NB141_127 := n10_; clear n0_ n1_ n2_ n3_ n4_ n5_ n6_ n7_ n8_ n9_ n10_; clear hb hbox hg; obtain ⟨Ao6, co6, eo6⟩ := Kd.R_slice HO130.out; subst eo6; have hnb7 := NB141_127.out; have hnc7 := NB127_141.out; have hcz8_0 : w5.cell? ⟨gb141, 0, none⟩ = some (.slice none 0 0) := (blk_cell BK141.out 0).trans rfl; have hcz8_1 : w5.cell? ⟨gb141, 1, none⟩ = some (.slice none 0 0) := (blk_cell BK141.out 1).trans rfl; have hcz8_2 : w5.cell? ⟨gb141, 2, none⟩ = some (.slice none 0 0) := (blk_cell BK141.out 2).trans rfl; have hcz8_3 : w5.cell? ⟨gb141, 3, none⟩ = some (.slice none 0 0) := (blk_cell BK141.out 3).trans rfl; have hcz8_4 : w5.cell? ⟨gb141, 4, none⟩ = some (.int .i64 0) := (blk_cell BK141.out 4).trans rfl; have hfz8_0 := blk_frozen BK141.out 0; have hfz8_1 := blk_frozen BK141.out 1; have hfz8_2 := blk_frozen BK141.out 2; have hfz8_3 := blk_frozen BK141.out 3; have hfz8_4 := blk_frozen BK141.out 4; obtain ⟨Ao9, co9, eo9⟩ := Kd.R_slice HO133.out; subst eo9; obtain ⟨Ao10, co10, eo10⟩ := Kd.R_slice HO136.out; subst eo10; obtain ⟨Ao11, co11, eo11⟩ := Kd.R_slice HO139.out; subst eo11) | ((with_reducible refine gate_builtin (b := .append) (xs := #[.tmp 4, .tmp 6]) rfl ?_); at_builtin; refine Kd.R_append k29 (w0 := w) w.heap.size rfl (.tmp 4) (.tmp 6) 25 29 (.agg #[(.int .i64 0), (.int .i64 0), (.int .i64 0), (.int .i64 0)]) 32 rfl Try.underlying25 info29 rfl (by decide) (by omega) (.slice Ao11 t137.length co11) t137 (⟨0, 3, 0, 1011⟩ : S29) [.int .i64 0, .int .i64 3, .int .i64 0, .int .i64 1011] (fun _ => True) (fun _ => False) rfl (by first | (go_simp; done) | (go_simp; rfl)) ?aP (fun _ hk => hk.elim) ?aF ?aO ?aB ?aS ?aL ?_; (case aP => exact k29_mkM _ _ _ (⟨0, 3, 0, 1011⟩ : S29)); (case aB => exact (by repeat (first | (with_reducible first | exact HB.out | apply below_alloc | apply pw_below_drewN | apply below_drew1 | refine below_set ?_ GE127.out | refine below_set ?_ GE141.out) | exact HB.out))); (case aF => exact (fun _ _ => trivial)); (case aO => exact (by (with_reducible repeat (first | apply Kd.R_alloc | apply Kd.R_drewN | apply Kd.R_drew)); exact Kd.R_mono (Kd.R_far (p := ⟨gb141, 4, none⟩) (Kd.R_far (p := ⟨gb141, 3, none⟩) (Kd.R_far (p := ⟨gb141, 2, none⟩) (Kd.R_far (p := ⟨gb141, 1, none⟩) (Kd.R_far (p := ⟨gb141, 0, none⟩) (Kd.R_types HO139.out BK141.out (by decide)) (fun _ hk => hk.2) (.slice Ao6 t128.length co6)) (fun _ hk => hk.2) (.slice Ao9 t131.length co9)) (fun _ hk => hk.2) (.slice Ao10 t134.length co10)) (fun _ hk => hk.2) (.slice Ao11 t137.length co11)) (fun _ hk => hk.2) (.int .i64 t140)) (fun _ hk => trivial))); (case aS => exact (below_size (by repeat (first | (with_reducible first | exact HB.out | apply below_alloc | apply pw_below_drewN | apply below_drew1 | refine below_set ?_ GE127.out | refine below_set ?_ GE141.out) | exact HB.out)))); (case aL => have := LMc2.out; omega); intro v143 w12 ho hb hg hat; rw [← Ny142.out] at ho; have n0_ := Aside0.mk (blk_grown (g := gb127) (o := .cells #[.slice none 0 0, .slice none 0 0, .slice none 0 0, .slice none 0 0, .int .i64 0] 27 (0, 0)) (by (with_reducible repeat (first | refine blk_drewN ?_ _ | refine blk_drew ?_ | refine blk_alloc ?_ _)); refine blk_far ?_ NB127_141.out _; (with_reducible repeat (first | refine blk_drewN ?_ _ | refine blk_drew ?_ | refine blk_alloc ?_ _)); refine blk_far ?_ NB127_141.out _; (with_reducible repeat (first | refine blk_drewN ?_ _ | refine blk_drew ?_ | refine blk_alloc ?_ _)); refine blk_far ?_ NB127_141.out _; (with_reducible repeat (first | refine blk_drewN ?_ _ | refine blk_drew ?_ | refine blk_alloc ?_ _)); refine blk_far ?_ NB127_141.out _; (with_reducible repeat (first | refine blk_drewN ?_ _ | refine blk_drew ?_ | refine blk_alloc ?_ _)); refine blk_far ?_ NB127_141.out _; (with_reducible repeat (first | refine blk_drewN ?_ _ | refine blk_drew ?_ | refine blk_alloc ?_ _)); exact BK127.out) hg (Kd.R_ne HO139.out BK127.out (by decide))); have n1_ := Aside0.mk (Kd.R_over' (by (with_reducible repeat (first | apply Kd.R_alloc | apply Kd.R_drewN | apply Kd.R_drew)); exact (Kd.R_mono (Kd.R_far (p := ⟨gb141, 4, none⟩) (Kd.R_far (p := ⟨gb141, 3, none⟩) (Kd.R_far (p := ⟨gb141, 2, none⟩) (Kd.R_far (p := ⟨gb141, 1, none⟩) (Kd.R_far (p := ⟨gb141, 0, none⟩) (Kd.R_types HO130.out BK141.out (by decide)) (fun _ hk => hk.2) (.slice Ao6 t128.length co6)) (fun _ hk => hk.2) (.slice Ao9 t131.length co9)) (fun _ hk => hk.2) (.slice Ao10 t134.length co10)) (fun _ hk => hk.2) (.slice Ao11 t137.length co11)) (fun _ hk => hk.2) (.int .i64 t140)) (fun _ h_ => h_.1))) (Kd.R_typed (by (with_reducible repeat (first | apply Kd.R_alloc | apply Kd.R_drewN | apply Kd.R_drew)); exact (Kd.R_mono (Kd.R_far (p := ⟨gb141, 4, none⟩) (Kd.R_far (p := ⟨gb141, 3, none⟩) (Kd.R_far (p := ⟨gb141, 2, none⟩) (Kd.R_far (p := ⟨gb141, 1, none⟩) (Kd.R_far (p := ⟨gb141, 0, none⟩) (Kd.R_types HO139.out BK141.out (by decide)) (fun _ hk => hk.2) (.slice Ao6 t128.length co6)) (fun _ hk => hk.2) (.slice Ao9 t131.length co9)) (fun _ hk => hk.2) (.slice Ao10 t134.length co10)) (fun _ hk => hk.2) (.slice Ao11 t137.length co11)) (fun _ hk => hk.2) (.int .i64 t140)) (fun _ h_ => h_.1)))) (by decide) hg); have n2_ := Aside0.mk (Kd.R_over' (by (with_reducible repeat (first | apply Kd.R_alloc | apply Kd.R_drewN | apply Kd.R_drew)); exact (Kd.R_mono (Kd.R_far (p := ⟨gb141, 4, none⟩) (Kd.R_far (p := ⟨gb141, 3, none⟩) (Kd.R_far (p := ⟨gb141, 2, none⟩) (Kd.R_far (p := ⟨gb141, 1, none⟩) (Kd.R_far (p := ⟨gb141, 0, none⟩) (Kd.R_types HO133.out BK141.out (by decide)) (fun _ hk => hk.2) (.slice Ao6 t128.length co6)) (fun _ hk => hk.2) (.slice Ao9 t131.length co9)) (fun _ hk => hk.2) (.slice Ao10 t134.length co10)) (fun _ hk => hk.2) (.slice Ao11 t137.length co11)) (fun _ hk => hk.2) (.int .i64 t140)) (fun _ h_ => h_.1))) (Kd.R_typed (by (with_reducible repeat (first | apply Kd.R_alloc | apply Kd.R_drewN | apply Kd.R_drew)); exact (Kd.R_mono (Kd.R_far (p := ⟨gb141, 4, none⟩) (Kd.R_far (p := ⟨gb141, 3, none⟩) (Kd.R_far (p := ⟨gb141, 2, none⟩) (Kd.R_far (p := ⟨gb141, 1, none⟩) (Kd.R_far (p := ⟨gb141, 0, none⟩) (Kd.R_types HO139.out BK141.out (by decide)) (fun _ hk => hk.2) (.slice Ao6 t128.length co6)) (fun _ hk => hk.2) (.slice Ao9 t131.length co9)) (fun _ hk => hk.2) (.slice Ao10 t134.length co10)) (fun _ hk => hk.2) (.slice Ao11 t137.length co11)) (fun _ hk => hk.2) (.int .i64 t140)) (fun _ h_ => h_.1)))) (by decide) hg); have n3_ := Aside0.mk (Kd.R_over' (by (with_reducible repeat (first | apply Kd.R_alloc | apply Kd.R_drewN | apply Kd.R_drew)); exact (Kd.R_mono (Kd.R_far (p := ⟨gb141, 4, none⟩) (Kd.R_far (p := ⟨gb141, 3, none⟩) (Kd.R_far (p := ⟨gb141, 2, none⟩) (Kd.R_far (p := ⟨gb141, 1, none⟩) (Kd.R_far (p := ⟨gb141, 0, none⟩) (Kd.R_types HO136.out BK141.out (by decide)) (fun _ hk => hk.2) (.slice Ao6 t128.length co6)) (fun _ hk => hk.2) (.slice Ao9 t131.length co9)) (fun _ hk => hk.2) (.slice Ao10 t134.length co10)) (fun _ hk => hk.2) (.slice Ao11 t137.length co11)) (fun _ hk => hk.2) (.int .i64 t140)) (fun _ h_ => h_.1))) (Kd.R_typed (by (with_reducible repeat (first | apply Kd.R_alloc | apply Kd.R_drewN | apply Kd.R_drew)); exact (Kd.R_mono (Kd.R_far (p := ⟨gb141, 4, none⟩) (Kd.R_far (p := ⟨gb141, 3, none⟩) (Kd.R_far (p := ⟨gb141, 2, none⟩) (Kd.R_far (p := ⟨gb141, 1, none⟩) (Kd.R_far (p := ⟨gb141, 0, none⟩) (Kd.R_types HO139.out BK141.out (by decide)) (fun _ hk => hk.2) (.slice Ao6 t128.length co6)) (fun _ hk => hk.2) (.slice Ao9 t131.length co9)) (fun _ hk => hk.2) (.slice Ao10 t134.length co10)) (fun _ hk => hk.2) (.slice Ao11 t137.length co11)) (fun _ hk => hk.2) (.int .i64 t140)) (fun _ h_ => h_.1)))) (by decide) hg); have n4_ := Aside0.mk (blk_grown (g := gb141) (o := .cells #[.slice Ao6 t128.length co6, .slice Ao9 t131.length co9, .slice Ao10 t134.length co10, .slice Ao11 t137.length co11, .int .i64 t140] 27 (0, 0)) (by (with_reducible repeat (first | refine blk_drewN ?_ _ | refine blk_drew ?_ | refine blk_alloc ?_ _)); refine blk_put (cs := #[.slice Ao6 t128.length co6, .slice Ao9 t131.length co9, .slice Ao10 t134.length co10, .slice Ao11 t137.length co11, .int .i64 0]) ?_ 4 _ rfl; (with_reducible repeat (first | refine blk_drewN ?_ _ | refine blk_drew ?_ | refine blk_alloc ?_ _)); refine blk_put (cs := #[.slice Ao6 t128.length co6, .slice Ao9 t131.length co9, .slice Ao10 t134.length co10, .slice none 0 0, .int .i64 0]) ?_ 3 _ rfl; (with_reducible repeat (first | refine blk_drewN ?_ _ | refine blk_drew ?_ | refine blk_alloc ?_ _)); refine blk_put (cs := #[.slice Ao6 t128.length co6, .slice Ao9 t131.length co9, .slice none 0 0, .slice none 0 0, .int .i64 0]) ?_ 2 _ rfl; (with_reducible repeat (first | refine blk_drewN ?_ _ | refine blk_drew ?_ | refine blk_alloc ?_ _)); refine blk_put (cs := #[.slice Ao6 t128.length co6, .slice none 0 0, .slice none 0 0, .slice none 0 0, .int .i64 0]) ?_ 1 _ rfl; (with_reducible repeat (first | refine blk_drewN ?_ _ | refine blk_drew ?_ | refine blk_alloc ?_ _)); refine blk_put (cs := #[.slice none 0 0, .slice none 0 0, .slice none 0 0, .slice none 0 0, .int .i64 0]) ?_ 0 _ rfl; (with_reducible repeat (first | refine blk_drewN ?_ _ | refine blk_drew ?_ | refine blk_alloc ?_ _)); exact BK141.out) hg (Kd.R_ne HO139.out BK141.out (by decide))); have n5_ := Aside0.mk (hb); have n6_ := Aside0.mk (ho); clear BK127; clear HO130; clear HO133; clear HO136; clear BK141; clear HB; clear HO139; have BK127 := n0_; have HO130 := n1_; have HO133 := n2_; have HO136 := n3_; have BK141 := n4_; have HB := n5_; have HO144 := n6_; clear n0_ n1_ n2_ n3_ n4_ n5_ n6_; clear ho hb hg hat; obtain ⟨Ao13, co13, eo13⟩ := Kd.R_slice HO144.out; subst eo13; have hcz14_0 : w12.cell? ⟨gb141, 0, none⟩ = some (.slice Ao6 t128.length co6) := (blk_cell BK141.out 0).trans rfl; have hcz14_1 : w12.cell? ⟨gb141, 1, none⟩ = some (.slice Ao9 t131.length co9) := (blk_cell BK141.out 1).trans rfl; have hcz14_2 : w12.cell? ⟨gb141, 2, none⟩ = some (.slice Ao10 t134.length co10) := (blk_cell BK141.out 2).trans rfl; have hcz14_3 : w12.cell? ⟨gb141, 3, none⟩ = some (.slice Ao11 t137.length co11) := (blk_cell BK141.out 3).trans rfl; have hcz14_4 : w12.cell? ⟨gb141, 4, none⟩ = some (.int .i64 t140) := (blk_cell BK141.out 4).trans rfl; have hfz14_0 := blk_frozen BK141.out 0; have hfz14_1 := blk_frozen BK141.out 1; have hfz14_2 := blk_frozen BK141.out 2; have hfz14_3 := blk_frozen BK141.out 3; have hfz14_4 := blk_frozen BK141.out 4; have hcz15_0 : w12.cell? ⟨gb127, 0, none⟩ = some (.slice none 0 0) := (blk_cell BK127.out 0).trans rfl; have hcz15_1 : w12.cell? ⟨gb127, 1, none⟩ = some (.slice none 0 0) := (blk_cell BK127.out 1).trans rfl; have hcz15_2 : w12.cell? ⟨gb127, 2, none⟩ = some (.slice none 0 0) := (blk_cell BK127.out 2).trans rfl; have hcz15_3 : w12.cell? ⟨gb127, 3, none⟩ = some (.slice none 0 0) := (blk_cell BK127.out 3).trans rfl; have hcz15_4 : w12.cell? ⟨gb127, 4, none⟩ = some (.int .i64 0) := (blk_cell BK127.out 4).trans rfl; have hfz15_0 := blk_frozen BK127.out 0; have hfz15_1 := blk_frozen BK127.out 1; have hfz15_2 := blk_frozen BK127.out 2; have hfz15_3 := blk_frozen BK127.out 3; have hfz15_4 := blk_frozen BK127.out 4))
    refine bodyPost_ret (results_cell_row rfl _ _ gb127 27 #[.slice Ao6 t128.length co6, .slice Ao9 t131.length co9, .slice Ao10 t134.length co10, .slice Ao13 y142.length co13, .int .i64 t140] (0, 0) _ rfl (by (with_reducible repeat (first | refine blk_drewN ?_ _ | refine blk_drew ?_ | refine blk_alloc ?_ _)); refine blk_put (cs := #[.slice Ao6 t128.length co6, .slice Ao9 t131.length co9, .slice Ao10 t134.length co10, .slice Ao13 y142.length co13, .int .i64 0]) ?_ 4 _ rfl; (with_reducible repeat (first | refine blk_drewN ?_ _ | refine blk_drew ?_ | refine blk_alloc ?_ _)); refine blk_put (cs := #[.slice Ao6 t128.length co6, .slice Ao9 t131.length co9, .slice Ao10 t134.length co10, .slice none 0 0, .int .i64 0]) ?_ 3 _ rfl; (with_reducible repeat (first | refine blk_drewN ?_ _ | refine blk_drew ?_ | refine blk_alloc ?_ _)); refine blk_put (cs := #[.slice Ao6 t128.length co6, .slice Ao9 t131.length co9, .slice none 0 0, .slice none 0 0, .int .i64 0]) ?_ 2 _ rfl; (with_reducible repeat (first | refine blk_drewN ?_ _ | refine blk_drew ?_ | refine blk_alloc ?_ _)); refine blk_put (cs := #[.slice Ao6 t128.length co6, .slice none 0 0, .slice none 0 0, .slice none 0 0, .int .i64 0]) ?_ 1 _ rfl; (with_reducible repeat (first | refine blk_drewN ?_ _ | refine blk_drew ?_ | refine blk_alloc ?_ _)); refine blk_put (cs := #[.slice none 0 0, .slice none 0 0, .slice none 0 0, .slice none 0 0, .int .i64 0]) ?_ 0 _ rfl; (with_reducible repeat (first | refine blk_drewN ?_ _ | refine blk_drew ?_ | refine blk_alloc ?_ _)); refine blk_far ?_ NB127_141.out _; (with_reducible repeat (first | refine blk_drewN ?_ _ | refine blk_drew ?_ | refine blk_alloc ?_ _)); exact BK127.out) Try.underlying27 rfl (by kernel_rfl)) rfl ?_
    exact ⟨_, _, _, _, by first | rfl | (simp [errW_none, errW_some] <;> rfl) | (simp [*, errW_none, errW_some] <;> rfl), by (with_reducible repeat (first | apply Kd.R_alloc | apply Kd.R_drewN | apply Kd.R_drew)); exact Kd.R_mono (Kd.R_far (p := ⟨gb127, 4, none⟩) (Kd.R_far (p := ⟨gb127, 3, none⟩) (Kd.R_far (p := ⟨gb127, 2, none⟩) (Kd.R_far (p := ⟨gb127, 1, none⟩) (Kd.R_far (p := ⟨gb127, 0, none⟩) (Kd.R_far (p := ⟨gb141, 3, none⟩) (Kd.R_types (Kd.R_types HO130.out BK141.out (by decide)) BK127.out (by decide)) (fun _ hk => hk.1.2) (.slice Ao13 y142.length co13)) (fun _ hk => hk.2) (.slice Ao6 t128.length co6)) (fun _ hk => hk.2) (.slice Ao9 t131.length co9)) (fun _ hk => hk.2) (.slice Ao10 t134.length co10)) (fun _ hk => hk.2) (.slice Ao13 y142.length co13)) (fun _ hk => hk.2) (.int .i64 t140)) (fun _ hk => trivial), by (with_reducible repeat (first | apply Kd.R_alloc | apply Kd.R_drewN | apply Kd.R_drew)); exact Kd.R_mono (Kd.R_far (p := ⟨gb127, 4, none⟩) (Kd.R_far (p := ⟨gb127, 3, none⟩) (Kd.R_far (p := ⟨gb127, 2, none⟩) (Kd.R_far (p := ⟨gb127, 1, none⟩) (Kd.R_far (p := ⟨gb127, 0, none⟩) (Kd.R_far (p := ⟨gb141, 3, none⟩) (Kd.R_types (Kd.R_types HO133.out BK141.out (by decide)) BK127.out (by decide)) (fun _ hk => hk.1.2) (.slice Ao13 y142.length co13)) (fun _ hk => hk.2) (.slice Ao6 t128.length co6)) (fun _ hk => hk.2) (.slice Ao9 t131.length co9)) (fun _ hk => hk.2) (.slice Ao10 t134.length co10)) (fun _ hk => hk.2) (.slice Ao13 y142.length co13)) (fun _ hk => hk.2) (.int .i64 t140)) (fun _ hk => trivial), by (with_reducible repeat (first | apply Kd.R_alloc | apply Kd.R_drewN | apply Kd.R_drew)); exact Kd.R_mono (Kd.R_far (p := ⟨gb127, 4, none⟩) (Kd.R_far (p := ⟨gb127, 3, none⟩) (Kd.R_far (p := ⟨gb127, 2, none⟩) (Kd.R_far (p := ⟨gb127, 1, none⟩) (Kd.R_far (p := ⟨gb127, 0, none⟩) (Kd.R_far (p := ⟨gb141, 3, none⟩) (Kd.R_types (Kd.R_types HO136.out BK141.out (by decide)) BK127.out (by decide)) (fun _ hk => hk.1.2) (.slice Ao13 y142.length co13)) (fun _ hk => hk.2) (.slice Ao6 t128.length co6)) (fun _ hk => hk.2) (.slice Ao9 t131.length co9)) (fun _ hk => hk.2) (.slice Ao10 t134.length co10)) (fun _ hk => hk.2) (.slice Ao13 y142.length co13)) (fun _ hk => hk.2) (.int .i64 t140)) (fun _ hk => trivial), by (with_reducible repeat (first | apply Kd.R_alloc | apply Kd.R_drewN | apply Kd.R_drew)); exact Kd.R_mono (Kd.R_far (p := ⟨gb127, 4, none⟩) (Kd.R_far (p := ⟨gb127, 3, none⟩) (Kd.R_far (p := ⟨gb127, 2, none⟩) (Kd.R_far (p := ⟨gb127, 1, none⟩) (Kd.R_far (p := ⟨gb127, 0, none⟩) (Kd.R_far (p := ⟨gb141, 3, none⟩) (Kd.R_types (Kd.R_types HO144.out BK141.out (by decide)) BK127.out (by decide)) (fun _ hk => hk.1.2) (.slice Ao13 y142.length co13)) (fun _ hk => hk.2) (.slice Ao6 t128.length co6)) (fun _ hk => hk.2) (.slice Ao9 t131.length co9)) (fun _ hk => hk.2) (.slice Ao10 t134.length co10)) (fun _ hk => hk.2) (.slice Ao13 y142.length co13)) (fun _ hk => hk.2) (.int .i64 t140)) (fun _ hk => trivial), by repeat (first | (with_reducible first | exact HB.out | apply below_alloc | apply pw_below_drewN | apply below_drew1 | refine below_set ?_ GE127.out | refine below_set ?_ GE141.out) | exact HB.out)⟩
  · rw [if_neg c2] at H
    exact absurd H (by simp)
def shambleslaw01_seals.f  : Option (List Int × List Int × Int × Int) := some ((([1, 0] : List Int)), (([2, 3] : List Int)), 1, 4)
set_option maxHeartbeats 8000000 in
set_option maxRecDepth 100000 in
theorem shambleslaw01_seals.calls  (r1 : List Int) (r2 : List Int) (r3 : Int) (r4 : Int) (w : World) (h : shambleslaw01_seals.f  = some (r1, r2, r3, r4)) :
    Calls Try.prog 58 #[] w fun e w' => ∃ v0_ v1_ : Value, e = .returned (.agg #[v0_, v1_, .int .i64 r3, .int .i64 r4]) ∧ Kd.R (Kd.int .i64) 3 w' w.heap.size (fun k_ => some k_ ≠ (v1_ : Value).ownBlock) v0_ r1 ∧ Kd.R (Kd.int .i64) 3 w' w.heap.size (fun k_ => some k_ ≠ (v0_ : Value).ownBlock) v1_ r2 ∧ Below w.heap.size w w' := by
  have hu52 := Try.underlying52
  have HB := Aside0.mk (Below.refl w.heap.size w)
  have H : (some ((([1, 0] : List Int)), (([2, 3] : List Int)), 1, 4)) = some (r1, r2, r3, r4) := h
  clear h
  obtain ⟨y146, hy146⟩ : ∃ y_ : List Int, y_ = (([1, 0] : List Int)) := ⟨_, rfl⟩
  replace H : (some (y146, (([2, 3] : List Int)), 1, 4)) = some (r1, r2, r3, r4) := by first | (rw [hy146]; with_reducible exact H) | (have H2_ := (Option.bind_some _ _).symm.trans H; rw [hy146]; with_reducible exact H2_) | (have H2_ := (Option.bind_some _ _).symm.trans H; with_reducible exact H2_) | with_reducible exact H | (rw [hy146]; exact H) | exact H
  have Ny146 := Aside0.mk hy146
  clear hy146
  obtain ⟨y149, hy149⟩ : ∃ y_ : List Int, y_ = (([2, 3] : List Int)) := ⟨_, rfl⟩
  replace H : (some (y146, y149, 1, 4)) = some (r1, r2, r3, r4) := by first | (rw [hy149]; with_reducible exact H) | (have H2_ := (Option.bind_some _ _).symm.trans H; rw [hy149]; with_reducible exact H2_) | (have H2_ := (Option.bind_some _ _).symm.trans H; with_reducible exact H2_) | with_reducible exact H | (rw [hy149]; exact H) | exact H
  have Ny149 := Aside0.mk hy149
  clear hy149
  simp only [Option.some.injEq, Prod.mk.injEq] at H
  obtain ⟨rfl, rfl, rfl, rfl⟩ := H
  go_enter Try.func58, Try.ntmps58
  go_wp2_with (first | ((with_reducible refine gate_dst (N := 0) rfl ?_); refine box_event ?hg (N := 0) ?hd (cs := #[.slice none 0 0, .slice none 0 0, .int .i64 0, .int .i64 0]) (t := 52) ?hr ?_; (case hd => rfl); (case hg => rfl); (case hr => first | (go_simp; done) | (go_simp; rfl)); intro gb145 hg w1 hbox hb; have n0_ := Aside0.mk (below_step (by repeat (first | (with_reducible first | exact HB.out | apply below_alloc | apply pw_below_drewN | apply below_drew1) | exact HB.out)) hb); have n1_ := Aside0.mk (hbox); have n2_ := Aside0.mk ((by rw [hg]; exact (below_size (by repeat (first | (with_reducible first | exact HB.out | apply below_alloc | apply pw_below_drewN | apply below_drew1) | exact HB.out))) : w.heap.size ≤ gb145)); have n3_ := Aside0.mk ((by rw [hg]; exact (below_size (by repeat (first | (with_reducible first | exact HB.out | apply below_alloc | apply pw_below_drewN | apply below_drew1) | exact HB.out))) : w.heap.size ≤ gb145)); clear HB; have HB := n0_; have BK145 := n1_; have GW145 := n2_; have GE145 := n3_; clear n0_ n1_ n2_ n3_; clear hb hbox hg) | ((with_reducible refine gate_dst (N := 1) rfl ?_); refine Kd.R_lit (Kd.int .i64) _ 3 ?hg (N := 1) ?hd (xs := ([1, 0] : List Int)) (inner := [.int .i64 1, .int .i64 0]) (ok := fun _ => True) (okp := fun _ => True) ?hr ?hp (fun _ hk => hk) trivial (Below.refl _ _) (Nat.le_refl _) (by simp) ?_; (case hd => rfl); (case hg => rfl); (case hr => first | (go_simp; done) | (go_simp; rfl)); (case hp => exact (Reps.one (show Kd.M (Kd.int .i64) _ _ _ 1 [.int .i64 1] from rfl) (Reps.one (show Kd.M (Kd.int .i64) _ _ _ 0 [.int .i64 0] from rfl) (Reps.none _ _)))); intro v147 w2 ho3 hb hg_ hnew_; clear hg_ hnew_; (first | rw [← Ny146.out] at ho3 | (simp only [Int.reduceToNat] at ho3; rw [← Ny146.out] at ho3)); have n0_ := Aside0.mk (Kd.R_lower ho3 (below_size (by repeat (first | (with_reducible first | exact HB.out | apply below_alloc | apply pw_below_drewN | apply below_drew1 | refine below_set ?_ GE145.out) | exact HB.out)))); have n1_ := Aside0.mk (blk_below (g := gb145) (o := .cells #[.slice none 0 0, .slice none 0 0, .int .i64 0, .int .i64 0] 52 (0, 0)) (by (with_reducible repeat (first | refine blk_drewN ?_ _ | refine blk_drew ?_ | refine blk_alloc ?_ _)); exact BK145.out) hb); have n2_ := Aside0.mk (below_step (by repeat (first | (with_reducible first | exact HB.out | apply below_alloc | apply pw_below_drewN | apply below_drew1 | refine below_set ?_ GE145.out) | exact HB.out)) hb); clear BK145; clear HB; have HO148 := n0_; have BK145 := n1_; have HB := n2_; clear n0_ n1_ n2_; clear hb ho3) | ((with_reducible refine gate_dst (N := 2) rfl ?_); refine Kd.R_lit (Kd.int .i64) _ 3 ?hg (N := 2) ?hd (xs := ([2, 3] : List Int)) (inner := [.int .i64 2, .int .i64 3]) (ok := fun _ => True) (okp := fun _ => True) ?hr ?hp (fun _ hk => hk) trivial (Below.refl _ _) (Nat.le_refl _) (by simp) ?_; (case hd => rfl); (case hg => rfl); (case hr => first | (go_simp; done) | (go_simp; rfl)); (case hp => exact (Reps.one (show Kd.M (Kd.int .i64) _ _ _ 2 [.int .i64 2] from rfl) (Reps.one (show Kd.M (Kd.int .i64) _ _ _ 3 [.int .i64 3] from rfl) (Reps.none _ _)))); intro v150 w4 ho5 hb hg_ hnew_; clear hg_ hnew_; (first | rw [← Ny149.out] at ho5 | (simp only [Int.reduceToNat] at ho5; rw [← Ny149.out] at ho5)); have n0_ := Aside0.mk (Kd.R_elder' (by (with_reducible repeat (first | apply Kd.R_alloc | apply Kd.R_drewN | apply Kd.R_drew)); exact HO148.out) (Kd.R_base ho5) hb); have n1_ := Aside0.mk (Kd.R_lower (Kd.R_new' ho5 (Kd.R_lt (by (with_reducible repeat (first | apply Kd.R_alloc | apply Kd.R_drewN | apply Kd.R_drew)); exact HO148.out))) (below_size (by repeat (first | (with_reducible first | exact HB.out | apply below_alloc | apply pw_below_drewN | apply below_drew1 | refine below_set ?_ GE145.out) | exact HB.out)))); have n2_ := Aside0.mk (blk_below (g := gb145) (o := .cells #[.slice none 0 0, .slice none 0 0, .int .i64 0, .int .i64 0] 52 (0, 0)) (by (with_reducible repeat (first | refine blk_drewN ?_ _ | refine blk_drew ?_ | refine blk_alloc ?_ _)); exact BK145.out) hb); have n3_ := Aside0.mk (below_step (by repeat (first | (with_reducible first | exact HB.out | apply below_alloc | apply pw_below_drewN | apply below_drew1 | refine below_set ?_ GE145.out) | exact HB.out)) hb); clear HO148; clear BK145; clear HB; have HO148 := n0_; have HO151 := n1_; have BK145 := n2_; have HB := n3_; clear n0_ n1_ n2_ n3_; clear hb ho5; obtain ⟨Ao6, co6, eo6⟩ := Kd.R_slice HO151.out; subst eo6; obtain ⟨Ao7, co7, eo7⟩ := Kd.R_slice HO148.out; subst eo7; have hcz8_0 : w4.cell? ⟨gb145, 0, none⟩ = some (.slice none 0 0) := (blk_cell BK145.out 0).trans rfl; have hcz8_1 : w4.cell? ⟨gb145, 1, none⟩ = some (.slice none 0 0) := (blk_cell BK145.out 1).trans rfl; have hcz8_2 : w4.cell? ⟨gb145, 2, none⟩ = some (.int .i64 0) := (blk_cell BK145.out 2).trans rfl; have hcz8_3 : w4.cell? ⟨gb145, 3, none⟩ = some (.int .i64 0) := (blk_cell BK145.out 3).trans rfl; have hfz8_0 := blk_frozen BK145.out 0; have hfz8_1 := blk_frozen BK145.out 1; have hfz8_2 := blk_frozen BK145.out 2; have hfz8_3 := blk_frozen BK145.out 3))
  refine bodyPost_ret (results_cell_row rfl _ _ gb145 52 #[.slice Ao7 y146.length co7, .slice Ao6 y149.length co6, .int .i64 1, .int .i64 4] (0, 0) _ rfl (by (with_reducible repeat (first | refine blk_drewN ?_ _ | refine blk_drew ?_ | refine blk_alloc ?_ _)); refine blk_put (cs := #[.slice Ao7 y146.length co7, .slice Ao6 y149.length co6, .int .i64 1, .int .i64 0]) ?_ 3 _ rfl; (with_reducible repeat (first | refine blk_drewN ?_ _ | refine blk_drew ?_ | refine blk_alloc ?_ _)); refine blk_put (cs := #[.slice Ao7 y146.length co7, .slice Ao6 y149.length co6, .int .i64 0, .int .i64 0]) ?_ 2 _ rfl; (with_reducible repeat (first | refine blk_drewN ?_ _ | refine blk_drew ?_ | refine blk_alloc ?_ _)); refine blk_put (cs := #[.slice Ao7 y146.length co7, .slice none 0 0, .int .i64 0, .int .i64 0]) ?_ 1 _ rfl; (with_reducible repeat (first | refine blk_drewN ?_ _ | refine blk_drew ?_ | refine blk_alloc ?_ _)); refine blk_put (cs := #[.slice none 0 0, .slice none 0 0, .int .i64 0, .int .i64 0]) ?_ 0 _ rfl; (with_reducible repeat (first | refine blk_drewN ?_ _ | refine blk_drew ?_ | refine blk_alloc ?_ _)); exact BK145.out) Try.underlying52 rfl (by kernel_rfl)) rfl ?_
  exact ⟨_, _, by first | rfl | (simp [errW_none, errW_some] <;> rfl) | (simp [*, errW_none, errW_some] <;> rfl), by (with_reducible repeat (first | apply Kd.R_alloc | apply Kd.R_drewN | apply Kd.R_drew)); exact Kd.R_mono (Kd.R_far (p := ⟨gb145, 3, none⟩) (Kd.R_far (p := ⟨gb145, 2, none⟩) (Kd.R_far (p := ⟨gb145, 1, none⟩) (Kd.R_far (p := ⟨gb145, 0, none⟩) (Kd.R_types HO148.out BK145.out (by decide)) (fun _ hk => hk.2) (.slice Ao7 y146.length co7)) (fun _ hk => hk.2) (.slice Ao6 y149.length co6)) (fun _ hk => hk.2) (.int .i64 1)) (fun _ hk => hk.2) (.int .i64 4)) (fun _ hk => hk.1.2), by (with_reducible repeat (first | apply Kd.R_alloc | apply Kd.R_drewN | apply Kd.R_drew)); exact Kd.R_mono (Kd.R_far (p := ⟨gb145, 3, none⟩) (Kd.R_far (p := ⟨gb145, 2, none⟩) (Kd.R_far (p := ⟨gb145, 1, none⟩) (Kd.R_far (p := ⟨gb145, 0, none⟩) (Kd.R_types HO151.out BK145.out (by decide)) (fun _ hk => hk.2) (.slice Ao7 y146.length co7)) (fun _ hk => hk.2) (.slice Ao6 y149.length co6)) (fun _ hk => hk.2) (.int .i64 1)) (fun _ hk => hk.2) (.int .i64 4)) (fun _ hk => hk.1.2), by repeat (first | (with_reducible first | exact HB.out | apply below_alloc | apply pw_below_drewN | apply below_drew1 | refine below_set ?_ GE145.out) | exact HB.out)⟩
def shambleskit_SameSpans.l0 : Nat → List (S50) → List (S50) → Bool → Int → Option (Bool)
  | 0, _, _, _, _ => none
  | k + 1, x0, x1, x5, x6 => if x5 = true then (if x6 < (x0.length : Int) then (if 0 ≤ x6 then (if x6 < (x1.length : Int) then (shambleskit_SameSpans.l0 k x0 x1 (((rd_T50 x0 x6).f0) == ((rd_T50 x1 x6).f0) && (((rd_T50 x0 x6).f1) == ((rd_T50 x1 x6).f1))) (wrap64 (x6 + 1))) else (none)) else (none)) else (some x5)) else (some x5)
def shambleskit_SameSpans.f (k : Nat) (l0 : List (S50)) (l1 : List (S50)) : Option (Bool) := shambleskit_SameSpans.l0 k l0 l1 ((l0.length : Int) == (l1.length : Int)) 0
set_option maxHeartbeats 8000000 in
set_option maxRecDepth 100000 in
theorem shambleskit_SameSpans.calls (k : Nat) (A0 : Option Addr) (c0 : Nat) (l0 : List (S50)) (A1 : Option Addr) (c1 : Nat) (l1 : List (S50)) (r : Bool) (w : World) (hr0 : Kd.C k50 w A0 l0.length l0) (hc0 : l0.length ≤ c0) (hr1 : Kd.C k50 w A1 l1.length l1) (hc1 : l1.length ≤ c1) (h : shambleskit_SameSpans.f k l0 l1 = some r) :
    Calls Try.prog 42 #[.slice A0 l0.length c0, .slice A1 l1.length c1] w fun e w' => e = .returned (.bool r) ∧ Drawn0 w w' := by
  have hu50 := Try.underlying50
  have HR0 := Aside0.mk hr0
  have HC0 := Aside0.mk hc0
  clear hr0 hc0
  have HR1 := Aside0.mk hr1
  have HC1 := Aside0.mk hc1
  clear hr1 hc1
  have H : (shambleskit_SameSpans.l0 k l0 l1 ((l0.length : Int) == (l1.length : Int)) 0) = some r := h
  clear h
  have H' := Aside0.mk H
  clear H
  go_enter Try.func42, Try.ntmps42
  go_wp2
  repeat (go_quiet (fail); try go_wp2)
  go_loopg [5, 6] k (fun kq v5 v6 w' => ∃ (x5_1 : Bool) (x6_1 : Int), v5 = .bool x5_1 ∧ v6 = .int .i64 x6_1 ∧ Aside0 (shambleskit_SameSpans.l0 kq l0 l1 x5_1 x6_1 = some r) ∧ Aside0 (kq ≤ k) ∧ Drawn0 w w')
  case atStart => exact ⟨(((l0.length : Int) == (l1.length : Int))), (0), (by first | rfl | (simp; done) | (simp [*]; done)), (by first | rfl | (simp; done) | (simp [*]; done)), H', ⟨Nat.le_refl _⟩, by repeat (first | exact Drawn0.refl _ | apply Drawn0.step)⟩
  case round =>
    clear H'
    try clear c1
    try clear p2
    obtain ⟨x5_1, x6_1, rfl, rfl, HA, HK1, ⟨m1, rfl⟩⟩ := hrel
    cases gk with
    | zero => exact absurd HA.out (by simp [shambleskit_SameSpans.l0])
    | succ k1 =>
      have H := HA.out
      clear HA
      simp only [shambleskit_SameSpans.l0] at H
      by_cases c3 : x5_1 = true
      · subst c3
        have H1 : (if x6_1 < (l0.length : Int) then (if 0 ≤ x6_1 then (if x6_1 < (l1.length : Int) then (shambleskit_SameSpans.l0 k1 l0 l1 (((rd_T50 l0 x6_1).f0) == ((rd_T50 l1 x6_1).f0) && (((rd_T50 l0 x6_1).f1) == ((rd_T50 l1 x6_1).f1))) (wrap64 (x6_1 + 1))) else (none)) else (none)) else (some true)) = some r := by rw [if_pos rfl] at H; exact H
        clear H
        have H := H1
        clear H1
        by_cases c4 : x6_1 < (l0.length : Int)
        · rw [if_pos c4] at H
          have c4b0 : decide (x6_1 < (l0.length : Int)) = true := decide_eq_true c4
          clear c4
          by_cases c5 : 0 ≤ x6_1
          · rw [if_pos c5] at H
            have c5b0 : decide (0 ≤ x6_1) = true := decide_eq_true c5
            clear c5
            by_cases c6 : x6_1 < (l1.length : Int)
            · rw [if_pos c6] at H
              have c6b0 : decide (x6_1 < (l1.length : Int)) = true := decide_eq_true c6
              clear c6
              have H' := Aside0.mk H
              clear H
              have p152 : 0 ≤ (x6_1 : Int) := of_decide_eq_true (by first | (with_reducible assumption) | assumption)
              have q152 : x6_1 < (l0.length : Int) := of_decide_eq_true (by first | (with_reducible assumption) | assumption)
              obtain ⟨ad152, e152, hx152_0, hx152_1⟩ := at_T50 HR0.out x6_1 p152 q152
              cases e152
              replace p152 := eq_true p152
              replace q152 := eq_true q152
              have p153 : 0 ≤ (x6_1 : Int) := of_decide_eq_true (by first | (with_reducible assumption) | assumption)
              have q153 : x6_1 < (l1.length : Int) := of_decide_eq_true (by first | (with_reducible assumption) | assumption)
              obtain ⟨ad153, e153, hx153_0, hx153_1⟩ := at_T50 HR1.out x6_1 p153 q153
              cases e153
              replace p153 := eq_true p153
              replace q153 := eq_true q153
              go_wp2
              repeat (go_quiet (fail); try go_wp2)
              go_roundg k1
              case measure => have := HK1.out; omega
              case rel => exact ⟨((((rd_T50 l0 x6_1).f0) == ((rd_T50 l1 x6_1).f0) && (((rd_T50 l0 x6_1).f1) == ((rd_T50 l1 x6_1).f1)))), (wrap64 (x6_1 + 1)), (by first | rfl | (simp; done) | (simp [*]; done)), (by first | rfl | (simp; done) | (simp [*]; done)), H', ⟨by have := HK1.out; omega⟩, by repeat (first | exact Drawn0.refl _ | apply Drawn0.step)⟩
            · rw [if_neg c6] at H
              exact absurd H (by simp)
          · rw [if_neg c5] at H
            exact absurd H (by simp)
        · rw [if_neg c4] at H
          have c4b0 : decide (x6_1 < (l0.length : Int)) = false := decide_eq_false c4
          clear c4
          obtain rfl := Option.some.inj H
          go_wp2
          repeat (go_quiet (fail); try go_wp2)
          go_ret
          exact ⟨by first | rfl | (simp; done) | (simp [*]; done), by repeat (first | exact Drawn0.refl _ | apply Drawn0.step)⟩
      · replace c3 := Bool.eq_false_iff.mpr c3
        subst c3
        have H1 : (some false) = some r := by rw [if_neg (show ¬ (false = true) by decide)] at H; exact H
        clear H
        have H := H1
        clear H1
        obtain rfl := Option.some.inj H
        go_wp2
        repeat (go_quiet (fail); try go_wp2)
        go_ret
        exact ⟨by first | rfl | (simp; done) | (simp [*]; done), by repeat (first | exact Drawn0.refl _ | apply Drawn0.step)⟩
def shambleskit_SameInts.l0 : Nat → List Int → List Int → Bool → Int → Option (Bool)
  | 0, _, _, _, _ => none
  | k + 1, x0, x1, x5, x6 => if x5 = true then (if x6 < (x0.length : Int) then (if 0 ≤ x6 then (if x6 < (x1.length : Int) then (shambleskit_SameInts.l0 k x0 x1 ((rd x0 x6) == (rd x1 x6)) (wrap64 (x6 + 1))) else (none)) else (none)) else (some x5)) else (some x5)
def shambleskit_SameInts.f (k : Nat) (l0 : List Int) (l1 : List Int) : Option (Bool) := shambleskit_SameInts.l0 k l0 l1 ((l0.length : Int) == (l1.length : Int)) 0
set_option maxHeartbeats 8000000 in
set_option maxRecDepth 100000 in
theorem shambleskit_SameInts.calls (k : Nat) (A0 : Option Addr) (c0 : Nat) (l0 : List Int) (A1 : Option Addr) (c1 : Nat) (l1 : List Int) (r : Bool) (w : World) (hr0 : Kd.C (Kd.int .i64) w A0 l0.length l0) (hc0 : l0.length ≤ c0) (hr1 : Kd.C (Kd.int .i64) w A1 l1.length l1) (hc1 : l1.length ≤ c1) (h : shambleskit_SameInts.f k l0 l1 = some r) :
    Calls Try.prog 21 #[.slice A0 l0.length c0, .slice A1 l1.length c1] w fun e w' => e = .returned (.bool r) ∧ Drawn0 w w' := by
  have HR0 := Aside0.mk hr0
  have HC0 := Aside0.mk hc0
  clear hr0 hc0
  have HR1 := Aside0.mk hr1
  have HC1 := Aside0.mk hc1
  clear hr1 hc1
  have H : (shambleskit_SameInts.l0 k l0 l1 ((l0.length : Int) == (l1.length : Int)) 0) = some r := h
  clear h
  have H' := Aside0.mk H
  clear H
  go_enter Try.func21, Try.ntmps21
  go_wp2
  repeat (go_quiet (fail); try go_wp2)
  go_loopg [5, 6] k (fun kq v5 v6 w' => ∃ (x5_1 : Bool) (x6_1 : Int), v5 = .bool x5_1 ∧ v6 = .int .i64 x6_1 ∧ Aside0 (shambleskit_SameInts.l0 kq l0 l1 x5_1 x6_1 = some r) ∧ Aside0 (kq ≤ k) ∧ Drawn0 w w')
  case atStart => exact ⟨(((l0.length : Int) == (l1.length : Int))), (0), (by first | rfl | (simp; done) | (simp [*]; done)), (by first | rfl | (simp; done) | (simp [*]; done)), H', ⟨Nat.le_refl _⟩, by repeat (first | exact Drawn0.refl _ | apply Drawn0.step)⟩
  case round =>
    clear H'
    try clear c1
    try clear c2
    try clear p2
    obtain ⟨x5_1, x6_1, rfl, rfl, HA, HK1, ⟨m1, rfl⟩⟩ := hrel
    cases gk with
    | zero => exact absurd HA.out (by simp [shambleskit_SameInts.l0])
    | succ k1 =>
      have H := HA.out
      clear HA
      simp only [shambleskit_SameInts.l0] at H
      by_cases c3 : x5_1 = true
      · subst c3
        have H1 : (if x6_1 < (l0.length : Int) then (if 0 ≤ x6_1 then (if x6_1 < (l1.length : Int) then (shambleskit_SameInts.l0 k1 l0 l1 ((rd l0 x6_1) == (rd l1 x6_1)) (wrap64 (x6_1 + 1))) else (none)) else (none)) else (some true)) = some r := by rw [if_pos rfl] at H; exact H
        clear H
        have H := H1
        clear H1
        by_cases c4 : x6_1 < (l0.length : Int)
        · rw [if_pos c4] at H
          have c4b0 : decide (x6_1 < (l0.length : Int)) = true := decide_eq_true c4
          clear c4
          by_cases c5 : 0 ≤ x6_1
          · rw [if_pos c5] at H
            have c5b0 : decide (0 ≤ x6_1) = true := decide_eq_true c5
            clear c5
            by_cases c6 : x6_1 < (l1.length : Int)
            · rw [if_pos c6] at H
              have c6b0 : decide (x6_1 < (l1.length : Int)) = true := decide_eq_true c6
              clear c6
              have H' := Aside0.mk H
              clear H
              have p154 : 0 ≤ (x6_1 : Int) := of_decide_eq_true (by first | (with_reducible assumption) | assumption)
              have q154 : x6_1 < (l0.length : Int) := of_decide_eq_true (by first | (with_reducible assumption) | assumption)
              obtain ⟨ad154, e154, hx154_0⟩ := Kd.at_int HR0.out x6_1 p154 q154
              cases e154
              replace p154 := eq_true p154
              replace q154 := eq_true q154
              have p155 : 0 ≤ (x6_1 : Int) := of_decide_eq_true (by first | (with_reducible assumption) | assumption)
              have q155 : x6_1 < (l1.length : Int) := of_decide_eq_true (by first | (with_reducible assumption) | assumption)
              obtain ⟨ad155, e155, hx155_0⟩ := Kd.at_int HR1.out x6_1 p155 q155
              cases e155
              replace p155 := eq_true p155
              replace q155 := eq_true q155
              go_wp2
              repeat (go_quiet (fail); try go_wp2)
              go_roundg k1
              case measure => have := HK1.out; omega
              case rel => exact ⟨(((rd l0 x6_1) == (rd l1 x6_1))), (wrap64 (x6_1 + 1)), (by first | rfl | (simp; done) | (simp [*]; done)), (by first | rfl | (simp; done) | (simp [*]; done)), H', ⟨by have := HK1.out; omega⟩, by repeat (first | exact Drawn0.refl _ | apply Drawn0.step)⟩
            · rw [if_neg c6] at H
              exact absurd H (by simp)
          · rw [if_neg c5] at H
            exact absurd H (by simp)
        · rw [if_neg c4] at H
          have c4b0 : decide (x6_1 < (l0.length : Int)) = false := decide_eq_false c4
          clear c4
          obtain rfl := Option.some.inj H
          go_wp2
          repeat (go_quiet (fail); try go_wp2)
          go_ret
          exact ⟨by first | rfl | (simp; done) | (simp [*]; done), by repeat (first | exact Drawn0.refl _ | apply Drawn0.step)⟩
      · replace c3 := Bool.eq_false_iff.mpr c3
        subst c3
        have H1 : (some false) = some r := by rw [if_neg (show ¬ (false = true) by decide)] at H; exact H
        clear H
        have H := H1
        clear H1
        obtain rfl := Option.some.inj H
        go_wp2
        repeat (go_quiet (fail); try go_wp2)
        go_ret
        exact ⟨by first | rfl | (simp; done) | (simp [*]; done), by repeat (first | exact Drawn0.refl _ | apply Drawn0.step)⟩
end Go.Proofs.Ytebfnjabgkhngaa.Q
end
section
set_option linter.all false
set_option linter.unusedVariables false
set_option linter.unusedSimpArgs false
set_option linter.constructorNameAsVariable false
set_option linter.unusedVariables false
namespace Go.Proofs.Ytebfnjabgkhngaa
open Go.RowKit Go.RT
open Go.Proofs.YtebfnjabgkhngaaW.PrintWords (Kd ReadsRow OwnRow Reps)
def benchA : Bench := ⟨[⟨1000, 0, 0⟩, ⟨1000, -20, 20⟩, ⟨500, -10, 10⟩], [⟨1, 0, 3, 5⟩, ⟨2, 1, -9, -7⟩], [⟨-5, 5, -1, 2⟩], [⟨0, 2, 1, 1010⟩], 4⟩
def benchW : Bench := ⟨[⟨1000, 0, 0⟩, ⟨1000, -20, 20⟩, ⟨500, -10, 10⟩], [⟨1, 0, 3, 5⟩, ⟨2, 1, -9, -7⟩], [⟨-5, 5, -1, 2⟩], [⟨0, 2, 1, 1010⟩, ⟨0, 3, 0, 1011⟩], 4⟩
def sealsA : Seals := ⟨[1, 0], [2, 3], 1, 4⟩
theorem bench_any (w : World) : Calls Try.prog 56 #[] w fun e w' => ∃ v, e = .returned v ∧ BenchRd w' v benchA ∧ Ext w w' := by
  refine (Q.shambleslaw01_bench.calls _ _ _ _ _ w rfl).mono ?_
  rintro e w' ⟨v0, v1, v2, v3, rfl, h1, h2, h3, h4, hB⟩
  exact ⟨_, rfl, bench_of_R h1 h2 h3 h4 (by decide) (by decide) (by decide) (by decide), hB⟩
theorem wrong_any (w : World) : Calls Try.prog 57 #[] w fun e w' => ∃ v, e = .returned v ∧ BenchRd w' v benchW ∧ Ext w w' := by
  refine (Q.shambleslaw01_wrong.calls _ _ _ _ _ w rfl).mono ?_
  rintro e w' ⟨v0, v1, v2, v3, rfl, h1, h2, h3, h4, hB⟩
  exact ⟨_, rfl, bench_of_R h1 h2 h3 h4 (by decide) (by decide) (by decide) (by decide), hB⟩
theorem sealsA_any (w : World) : Calls Try.prog 58 #[] w fun e w' => ∃ v, e = .returned v ∧ SealsRd w' v sealsA ∧ Ext w w' := by
  refine (Q.shambleslaw01_seals.calls _ _ _ _ w rfl).mono ?_
  rintro e w' ⟨v0, v1, rfl, h1, h2, hB⟩
  obtain ⟨A1, c1, rfl, _, g1⟩ := Go.Proofs.YtebfnjabgkhngaaW.PrintWords.Kd.R_reads h1
  obtain ⟨A2, c2, rfl, _, g2⟩ := Go.Proofs.YtebfnjabgkhngaaW.PrintWords.Kd.R_reads h2
  exact ⟨_, rfl, seals_of_C g1 g2 (by decide) (by decide), hB⟩
def spansA : List D := [(1, 5), (3, 7), (5, 7), (4, 9), (3, 11)]
theorem errorsA_any (v : Value) (w : World) (h : BenchRd w v benchA) : Calls Try.prog 39 #[v, .int .i64 0] w fun e w' => ∃ v', e = .returned (.tuple #[v', .int .i64 0]) ∧ Q.k50.R 50 w' w.heap.size (fun _ => True) v' (spansA.map ofD) ∧ Ext w w' := by
  refine (Errors_any benchA v 0 4 (Ncnt benchA 4) (startT benchA 4) w h (fun h0 => ready_start h0 rfl)).mono ?_
  rintro e w' ⟨hp, hE⟩
  rw [if_pos (by decide +kernel)] at hp
  have hk : (knownT benchA 4 (Ncnt benchA 4) (startT benchA 4)).map (fun t => spansOf benchA 4 t (0 : Int).toNat) = some spansA := by decide +kernel
  obtain ⟨t, ht, hs⟩ := Option.map_eq_some_iff.1 hk
  rw [ht] at hp
  obtain ⟨v', rfl, hr⟩ := hp
  rw [hs] at hr
  exact ⟨v', rfl, spans_R rfl hr, hE⟩
theorem clashW_any (v : Value) (w : World) (h : BenchRd w v benchW) : Calls Try.prog 19 #[v] w fun e w' => ∃ v', e = .returned (.tuple #[v', .int .i64 0]) ∧ (Kd.int .i64).R 3 w' w.heap.size (fun _ => True) v' [0, 2, 3] ∧ Ext w w' := by
  refine (Clash_any benchW v 4 (Ncnt benchW 4) (startT benchW 4) w h (fun h0 => ready_start h0 rfl)).mono ?_
  rintro e w' ⟨hp, hE⟩
  rw [if_pos (by decide +kernel)] at hp
  have hk : clashS (Ncnt benchW 4) ((resFacts benchW 4).map Prod.snd) (startT benchW 4) = some [0, 2, 3] := by decide +kernel
  rw [hk] at hp
  obtain ⟨a, n, c, rfl, hr⟩ := hp
  exact ⟨_, rfl, ints_R rfl hr, hE⟩
def testsA : List D := [(1, 1), (2, 0)]
theorem planA_any (v : Value) (w : World) (h : SealsRd w v sealsA) : Calls Try.prog 30 #[v] w fun e w' => ∃ v', e = .returned (.tuple #[v', .int .i64 0]) ∧ Q.k100.R 100 w' w.heap.size (fun _ => True) v' (testsA.map ofDT) ∧ Ext w w' := by
  refine (Plan_any v sealsA w h).mono ?_
  rintro e w' ⟨hp, hE⟩
  rw [if_pos (by decide +kernel), if_pos (by decide +kernel)] at hp
  obtain ⟨v', rfl, hr⟩ := hp
  have hk : (planOf sealsA).tests = testsA := by decide +kernel
  rw [hk] at hr
  exact ⟨v', rfl, tests_R rfl hr, hE⟩
theorem lastsA_any (w : World) : Calls Try.prog 26 #[.agg #[.int .i64 (-2), .int .i64 3], .agg #[.int .i64 (-1), .int .i64 2], .int .i64 10] w fun e w' => e = .returned (.tuple #[.int .i64 3, .int .i64 0]) ∧ Ext w w' := by
  refine (Lasts_any _ _ _ _ _ w).mono ?_
  rintro e w' ⟨rfl, hE⟩
  rw [show lastsDays (-2) 3 (-1) 2 10 = 3 by decide +kernel, show lastsErr (-2) 3 (-1) 2 10 = 0 by decide +kernel]
  exact ⟨rfl, hE⟩
end Go.Proofs.Ytebfnjabgkhngaa
end
section
set_option linter.all false
set_option linter.unusedVariables false
set_option linter.unusedSimpArgs false
set_option linter.constructorNameAsVariable false
set_option linter.unusedVariables false
namespace Go.Proofs.Ytebfnjabgkhngaa
open Go.RowKit Go.RT
open Go.Proofs.YtebfnjabgkhngaaW.PrintWords (Kd ReadsRow OwnRow Reps Drawn0)
theorem spanI (a b : Int) (w : World) : Calls Try.prog 45 #[.int .i64 a, .int .i64 b] w fun e w' => e = .returned (.agg #[.int .i64 a, .int .i64 b]) ∧ Ext w w' := by
  refine (Q.shambleslaw01_span.calls a b a b w rfl).mono ?_
  rintro e w' ⟨rfl, hB⟩
  exact ⟨rfl, hB⟩
theorem R_C {α : Type} {d : Kd α} {e base : Nat} {w : World} {ok : Nat → Prop} {v : Value} {xs : List α} (h : d.R e w base ok v xs) : ∃ A c, v = .slice A xs.length c ∧ xs.length ≤ c ∧ d.C w A xs.length xs := Go.Proofs.YtebfnjabgkhngaaW.PrintWords.Kd.R_reads h
theorem C_laid {α : Type} {d : Kd α} (enc : α → List Value) (hK : ∀ w x, d.K w x (enc x)) (hs : ∀ x, (enc x).length = d.sz) (w : World) (T : TypeId) (xs : List α) (cs : Array Value) (hc : cs.toList = xs.flatMap enc) (hl : xs.length ≤ 9223372036854775807) : d.C (w.alloc (.cells cs T)) (some ⟨w.heap.size, 0, none⟩) xs.length xs := by
  refine ⟨rfl, hl, fun _ => ⟨_, rfl, fun j p hp => ⟨enc p, hs p, hK _ p, fun i u hu => ?_⟩⟩⟩
  rw [add_at]
  apply cell_laid
  rw [hc]
  have h := flat_part (size := d.sz) xs j p (fun y _ => hs y) hp
  rw [← h] at hu
  rw [List.getElem?_take] at hu
  split at hu
  · rwa [List.getElem?_drop] at hu
  · simp at hu
set_option maxRecDepth 100000 in
set_option maxHeartbeats 4000000 in
theorem awake_any (w : World) : Calls Try.prog 15 #[] w fun e w' => e = .returned (.bool true) ∧ Ext w w' := by
  go_enter Try.func15, Try.ntmps15
  go_wp2_with fail
  refine (bench_any _).mono ?_
  rintro e w1 ⟨vb, rfl, hb, E1⟩
  have HE1 := Lib.hid E1
  clear E1
  go_wp2_with fail
  refine (errorsA_any _ _ hb).mono ?_
  rintro e w2 ⟨v1, rfl, hr1, E2⟩
  have HE2 := Lib.hid (HE1.out.trans E2)
  have HR1 := Lib.hid hr1
  clear E2 hb HE1 hr1
  go_wp2_with fail
  refine (wrong_any _).mono ?_
  rintro e w3 ⟨vw, rfl, hw, E3⟩
  have HE3 := Lib.hid E3
  clear E3
  go_wp2_with fail
  refine (clashW_any _ _ hw).mono ?_
  rintro e w4 ⟨v3, rfl, hr3, E4⟩
  have HE4 := Lib.hid (HE3.out.trans E4)
  have HR3 := Lib.hid hr3
  clear hr3 hw HE3 E4
  go_wp2_with fail
  refine (sealsA_any _).mono ?_
  rintro e w5 ⟨vs, rfl, hs, E5⟩
  have HE5 := Lib.hid E5
  clear E5
  go_wp2_with fail
  refine (planA_any _ _ hs).mono ?_
  rintro e w6 ⟨v5, rfl, hr5, E6⟩
  have HE6 := Lib.hid (HE5.out.trans E6)
  have HR5 := Lib.hid hr5
  clear hr5 hs HE5 E6
  go_wp2_with fail
  refine (spanI _ _ _).mono ?_
  rintro e w7 ⟨rfl, E7⟩
  have HE7 := Lib.hid E7
  clear E7
  go_wp2_with fail
  refine (spanI _ _ _).mono ?_
  rintro e w8 ⟨rfl, E8⟩
  have HE8 := Lib.hid E8
  clear E8
  go_wp2_with fail
  refine (lastsA_any _).mono ?_
  rintro e w9 ⟨rfl, E9⟩
  have HE9 := Lib.hid (((((HE2.out.trans HE4.out).trans HE6.out).trans HE7.out).trans HE8.out).trans E9)
  have HF4 := Lib.hid ((((HE4.out.trans HE6.out).trans HE7.out).trans HE8.out).trans E9)
  have HF6 := Lib.hid (((HE6.out.trans HE7.out).trans HE8.out).trans E9)
  have HF8 := Lib.hid ((HE7.out.trans HE8.out).trans E9)
  clear E9 HE4 HE2 HE6 HE7 HE8
  go_wp2_with fail
  refine (spanI _ _ _).mono ?_
  rintro e u1 ⟨rfl, E1⟩
  go_wp2_with fail
  refine (spanI _ _ _).mono ?_
  rintro e u2 ⟨rfl, E2⟩
  go_wp2_with fail
  refine (spanI _ _ _).mono ?_
  rintro e u3 ⟨rfl, E3⟩
  go_wp2_with fail
  refine (spanI _ _ _).mono ?_
  rintro e u4 ⟨rfl, E4⟩
  go_wp2_with fail
  refine (spanI _ _ _).mono ?_
  rintro e u5 ⟨rfl, E5⟩
  go_wp2_with fail
  obtain ⟨A1, c1, rfl, hl1, g1⟩ := R_C HR1.out
  have hb1 : Below w2.heap.size w2 (u5.alloc (.cells #[.int .i64 1, .int .i64 5, .int .i64 3, .int .i64 7, .int .i64 5, .int .i64 7, .int .i64 4, .int .i64 9, .int .i64 3, .int .i64 11] 50)) := ((((((HF4.out.trans E1).trans E2).trans E3).trans E4).trans E5).trans (Ext.alloc _ _))
  refine (Q.shambleskit_SameSpans.calls 20 A1 c1 _ _ 5 (spansA.map ofD) true _ (Go.Proofs.YtebfnjabgkhngaaW.PrintWords.Kd.C_below g1 hb1) hl1 (C_laid (fun x => [.int .i64 x.f0, .int .i64 x.f1]) (fun w x => Q.k50_mk w x) (fun _ => rfl) u5 50 (spansA.map ofD) _ rfl (by decide)) (by decide) (by decide +kernel)).mono ?_
  rintro e u6 ⟨rfl, hd⟩
  have HB1 := Lib.hid ((hb1.mono (Nat.le_refl _)))
  have F0 := Lib.hid ((((((HE9.out.trans E1).trans E2).trans E3).trans E4).trans E5).trans (Ext.alloc _ _) |>.trans hd.below)
  have F4 := Lib.hid ((((((HF6.out.trans E1).trans E2).trans E3).trans E4).trans E5).trans (Ext.alloc _ _) |>.trans hd.below)
  have F6 := Lib.hid ((((((HF8.out.trans E1).trans E2).trans E3).trans E4).trans E5).trans (Ext.alloc _ _) |>.trans hd.below)
  clear HB1 hb1 hd E1 E2 E3 E4 E5 HE9 HF4 HF6 HF8 g1 hl1
  go_wp2_with fail
  obtain ⟨A2, c2, rfl, hl2, g2⟩ := R_C HR3.out
  refine (Q.shambleskit_SameInts.calls 20 A2 c2 _ _ 3 [0, 2, 3] true _ (Go.Proofs.YtebfnjabgkhngaaW.PrintWords.Kd.C_below g2 (F4.out.trans (Ext.alloc _ _))) hl2 (C_laid (fun x => [.int .i64 x]) (fun w x => rfl) (fun _ => rfl) u6 3 [0, 2, 3] _ rfl (by decide)) (by decide) (by decide +kernel)).mono ?_
  rintro e u7 ⟨rfl, hd⟩
  have G0 := Lib.hid ((F0.out.trans (Ext.alloc _ _)).trans hd.below)
  have G6 := Lib.hid ((F6.out.trans (Ext.alloc _ _)).trans hd.below)
  clear F0 F4 F6 g2 hl2 hd
  go_wp2_with fail
  obtain ⟨A3, c3, rfl, hl3, g3⟩ := R_C HR5.out
  refine (Q.shambleskit_SameTests.calls 20 A3 c3 _ _ 2 (testsA.map ofDT) true _ (Go.Proofs.YtebfnjabgkhngaaW.PrintWords.Kd.C_below g3 (G6.out.trans (Ext.alloc _ _))) hl3 (C_laid (fun x => [.int .i64 x.f0, .int .i64 x.f1]) (fun w x => Q.k100_mk w x) (fun _ => rfl) u7 100 (testsA.map ofDT) _ rfl (by decide)) (by decide) (by decide +kernel)).mono ?_
  rintro e u8 ⟨rfl, hd⟩
  have I0 := Lib.hid ((G0.out.trans (Ext.alloc _ _)).trans hd.below)
  clear G0 G6 g3 hl3 hd
  go_wp2_with fail
  go_ret
  exact ⟨rfl, I0.out⟩
end Go.Proofs.Ytebfnjabgkhngaa
end
section
set_option linter.all false
set_option linter.unusedVariables false
set_option linter.unusedSimpArgs false
set_option linter.constructorNameAsVariable false
namespace Go.Proofs.Ytebfnjabgkhngaa.Q
open Go.RowKit Go.Proofs.YtebfnjabgkhngaaW.PrintWords Go.Proofs.YtebfnjabgkhngaaW.PrintLast Go.Proofs.YtebfnjabgkhngaaW.PrintMore
attribute [local go_sem] max2_int min2_int max_two min_two max_three min_three max_four min_four
set_option linter.unusedVariables false
set_option linter.unusedSimpArgs false
def shambleslaw01_awake.f  : Option (Bool) := some true
theorem shambleslaw01_awake.calls  (r : Bool) (w : World) (h : shambleslaw01_awake.f  = some r) :
    Calls Try.prog 15 #[] w fun e w' => e = .returned (.bool r) ∧ Below w.heap.size w w' := by
  unfold shambleslaw01_awake.f at h
  simp only [Option.some.injEq] at h
  subst h
  exact awake_any w
end Go.Proofs.Ytebfnjabgkhngaa.Q
end
section
set_option linter.all false
set_option linter.unusedVariables false
set_option linter.unusedSimpArgs false
set_option linter.constructorNameAsVariable false
set_option linter.unusedVariables false
namespace Go.Proofs.Ytebfnjabgkhngaa
open Go.RowKit Go.RT
open Go.Proofs.YtebfnjabgkhngaaW.PrintWords (Kd)
def dieStep (f x : Int) : Int := IntKind.u64.wrap (IntKind.u64.wrap (bits BinOp.xor .u64 f (IntKind.u64.wrap x) * 11507291218515648293) + 11562461410679940143)
def dieOf (l : List Int) : Int := l.foldl dieStep 2611923443488327891
theorem dieOf_snoc (l : List Int) (x : Int) : dieOf (l ++ [x]) = dieStep (dieOf l) x := by unfold dieOf; rw [List.foldl_append]; rfl
def RdL (w : World) (A : Option Addr) (l : List Int) : Prop := ∀ i x, l[i]? = some x → ∃ b o, A = some ⟨b, o, none⟩ ∧ w.cell? ⟨b, o + i, none⟩ = some (.int .i64 x)
theorem RdL.ext {w w' : World} {A : Option Addr} {l : List Int} (h : RdL w A l) (he : Ext w w') : RdL w' A l := fun i x hx => by
  obtain ⟨b, o, h1, h2⟩ := h i x hx
  exact ⟨b, o, h1, he.cell h2⟩
theorem RdL.of_C {w : World} {A : Option Addr} {l : List Int} (h : (Kd.int .i64).C w A l.length l) : RdL w A l := fun i x hx => by
  have hi : i < l.length := (List.getElem?_eq_some_iff.1 hx).1
  obtain ⟨_, _, h2⟩ := h
  obtain ⟨ad, rfl, hc⟩ := h2 (by omega)
  obtain ⟨cs, _, hk, hcell⟩ := hc i x hx
  obtain ⟨cs0, _, hk0, hcell0⟩ := hc 0 _ (List.getElem?_eq_getElem (by omega))
  have hk' : cs = [.int .i64 x] := hk
  have hk0' : cs0 = [.int .i64 l[0]] := hk0
  rw [hk'] at hcell
  rw [hk0'] at hcell0
  have hsp := spot_none (by have := hcell0 0 _ rfl; simpa using this)
  refine ⟨ad.block, ad.off, by rw [← hsp], ?_⟩
  have := hcell 0 _ rfl
  rw [hsp, add_at] at this
  simpa [Kd.int, Kd.scalar] using this
theorem RdL.at_ {w : World} {A : Option Addr} {l : List Int} (h : RdL w A l) (i : Nat) (hi : i < l.length) : ∃ b o, A = some ⟨b, o, none⟩ ∧ w.cell? ⟨b, o + i, none⟩ = some (.int .i64 l[i]) := h i _ (List.getElem?_eq_getElem hi)
set_option maxRecDepth 100000 in
set_option maxHeartbeats 1000000 in
theorem DieOf_any (A : Option Addr) (c : Nat) (l : List Int) (w : World) (h : RdL w A l) (hlen : l.length ≤ 4611686018427387904) :
    Calls Try.prog 17 #[.slice A l.length c] w fun e w' => ∃ g, e = .returned (.pointer (some ⟨g, 0, none⟩)) ∧ w.heap.size ≤ g ∧ OwnB w' g 108 [.int .u64 (dieOf l)] ∧ Ext w w' := by
  have H := Lib.hid h
  clear h
  have HD := Lib.hid (OwnB.laid w 108 [.int .u64 2611923443488327891])
  go_enter Try.func17, Try.ntmps17
  go_wp2
  go_loopw [4] (fun q wr => ∃ k : Nat, q = .int .i64 k ∧ k ≤ l.length ∧ Ext w wr ∧ OwnB wr w.heap.size 108 [.int .u64 (dieOf (l.take k))]) (fun q _ => l.length - (intOf q).toNat)
  case atStart => exact ⟨0, rfl, Nat.zero_le _, Ext.alloc _ _, HD.out⟩
  case round =>
    clear HD
    obtain ⟨k, rfl, hk, hE, hO⟩ := hrel
    have d0 := hO.cell (j := 0) rfl
    have f0 := hO.frozen 0
    have dl := hO.lt
    by_cases hlt : k < l.length
    · obtain ⟨b, o, rfl, c0⟩ := (H.out.ext hE).at_ k hlt
      have hnext : dieOf (l.take (k + 1)) = dieStep (dieOf (l.take k)) l[k] := by rw [List.take_succ_eq_append_getElem hlt, dieOf_snoc]
      have HNx := Lib.hid hnext
      have HO := Lib.hid hO
      have HE := Lib.hid hE
      clear hnext hO hE
      generalize l[k] = x at *
      generalize dieOf (l.take k) = f at *
      go_wp2
      refine region_ext 14 [] (by kernel_rfl) (by kernel_rfl) trivial ?_
      simp only [List.take_succ_cons, List.take_zero, List.drop_succ_cons, List.drop_zero]
      refine wpR_val (v := ?_) ?_ ?_ (fun w1 hS hK => ?_) ?_
      rotate_left
      · rfl
      · rfl
      · clear hK hS
        go_simp
        with_reducible rfl
      simp only [Act.put, List.setIfInBounds_toArray, List.set_cons_zero, List.set_cons_succ]
      refine wpR_val (v := ?_) ?_ ?_ (fun w1 hS hK => ?_) ?_
      rotate_left
      · rfl
      · rfl
      · clear hK hS
        go_simp
        with_reducible rfl
      simp only [Act.put, List.setIfInBounds_toArray, List.set_cons_zero, List.set_cons_succ]
      refine wpR_val (v := ?_) ?_ ?_ (fun w1 hS hK => ?_) ?_
      rotate_left
      · rfl
      · rfl
      · clear hK hS
        go_simp
        with_reducible rfl
      simp only [Act.put, List.setIfInBounds_toArray, List.set_cons_zero, List.set_cons_succ]
      refine wpR_val (v := ?_) ?_ ?_ (fun w1 hS hK => ?_) ?_
      rotate_left
      · rfl
      · rfl
      · clear hK hS
        go_simp
        with_reducible rfl
      simp only [Act.put, List.setIfInBounds_toArray, List.set_cons_zero, List.set_cons_succ]
      refine wpR_val (v := ?_) ?_ ?_ (fun w1 hS hK => ?_) ?_
      rotate_left
      · rfl
      · rfl
      · have E1 := (Ext.refl _).trans hS
        have k0 := E1.cell c0
        have k1 := E1.cell d0
        clear hK hS E1
        go_simp
        with_reducible rfl
      simp only [Act.put, List.setIfInBounds_toArray, List.set_cons_zero, List.set_cons_succ]
      refine wpR_val (v := ?_) ?_ ?_ (fun w1 hS hK => ?_) ?_
      rotate_left
      · rfl
      · rfl
      · clear hK hS
        go_simp
        with_reducible rfl
      simp only [Act.put, List.setIfInBounds_toArray, List.set_cons_zero, List.set_cons_succ]
      refine wpR_val (v := ?_) ?_ ?_ (fun w1 hS hK => ?_) ?_
      rotate_left
      · rfl
      · rfl
      · clear hK hS
        go_simp
        with_reducible rfl
      simp only [Act.put, List.setIfInBounds_toArray, List.set_cons_zero, List.set_cons_succ]
      refine wpR_val (v := ?_) ?_ ?_ (fun w1 hS hK => ?_) ?_
      rotate_left
      · rfl
      · rfl
      · have E1 := (Ext.refl _).trans hS
        have k0 := E1.cell c0
        have k1 := E1.cell d0
        clear hK hS E1
        go_simp
        with_reducible rfl
      simp only [Act.put, List.setIfInBounds_toArray, List.set_cons_zero, List.set_cons_succ]
      refine wpR_val (v := ?_) ?_ ?_ (fun w1 hS hK => ?_) ?_
      rotate_left
      · rfl
      · rfl
      · have E1 := (Ext.refl _).trans hS
        have k0 := E1.cell c0
        have k1 := E1.cell d0
        clear hK hS E1
        go_simp
        with_reducible rfl
      simp only [Act.put, List.setIfInBounds_toArray, List.set_cons_zero, List.set_cons_succ]
      refine wpR_val (v := ?_) ?_ ?_ (fun w1 hS hK => ?_) ?_
      rotate_left
      · rfl
      · rfl
      · clear hK hS
        go_simp
        with_reducible rfl
      simp only [Act.put, List.setIfInBounds_toArray, List.set_cons_zero, List.set_cons_succ]
      refine wpR_val (v := ?_) ?_ ?_ (fun w1 hS hK => ?_) ?_
      rotate_left
      · rfl
      · rfl
      · clear hK hS
        go_simp
        with_reducible rfl
      simp only [Act.put, List.setIfInBounds_toArray, List.set_cons_zero, List.set_cons_succ]
      refine wpR_val (v := ?_) ?_ ?_ (fun w1 hS hK => ?_) ?_
      rotate_left
      · rfl
      · rfl
      · clear hK hS
        go_simp
        with_reducible rfl
      simp only [Act.put, List.setIfInBounds_toArray, List.set_cons_zero, List.set_cons_succ]
      refine wpR_val (v := ?_) ?_ ?_ (fun w1 hS hK => ?_) ?_
      rotate_left
      · rfl
      · rfl
      · clear hK hS
        go_simp
        with_reducible rfl
      simp only [Act.put, List.setIfInBounds_toArray, List.set_cons_zero, List.set_cons_succ]
      refine wpR_val (v := ?_) ?_ ?_ (fun w1 hS hK => ?_) ?_
      rotate_left
      · rfl
      · rfl
      · clear hK hS
        go_simp
        with_reducible rfl
      simp only [Act.put, List.setIfInBounds_toArray, List.set_cons_zero, List.set_cons_succ]
      intro w2 E2 _
      have O2 := HO.out.ext E2
      have d2 := O2.cell (j := 0) rfl
      have f2 := O2.frozen 0
      have dl2 := O2.lt
      have HO2 := Lib.hid O2
      clear O2 HO d0 f0 c0 dl
      go_wp2
      have hE2 := HE.out.trans E2
      refine ⟨⟨k + 1, by push_cast; rfl, hlt, ext_own (ext_own hE2 (Nat.le_refl _) _) (Nat.le_refl _) _, ?_⟩, by simp [intOf]; omega⟩
      rw [HNx.out]
      exact (HO2.out.set 0 _).set 0 _
    · obtain rfl : k = l.length := by omega
      rw [List.take_length] at hO
      have HO := Lib.hid hO
      have HE := Lib.hid hE
      clear hO hE d0 f0
      go_wp2
      go_ret
      exact ⟨_, rfl, Nat.le_refl _, HO.out, HE.out⟩
end Go.Proofs.Ytebfnjabgkhngaa
end
section
set_option linter.all false
set_option linter.unusedVariables false
set_option linter.unusedSimpArgs false
set_option linter.constructorNameAsVariable false
namespace Go.Proofs.Ytebfnjabgkhngaa.Q
open Go.RowKit Go.Proofs.YtebfnjabgkhngaaW.PrintWords Go.Proofs.YtebfnjabgkhngaaW.PrintLast Go.Proofs.YtebfnjabgkhngaaW.PrintMore
attribute [local go_sem] max2_int min2_int max_two min_two max_three min_three max_four min_four
set_option linter.unusedVariables false
set_option linter.unusedSimpArgs false
def shambleskit_DieOf.f (l0 : List Int) : Option Int := if l0.length ≤ 4611686018427387904 then some (dieOf l0) else none
theorem shambleskit_DieOf.calls (A0 : Option Addr) (c0 : Nat) (l0 : List Int) (r : Int) (w0 w : World) (hB : Below w0.heap.size w0 w) (hr0 : Kd.C (Kd.int .i64) w0 A0 l0.length l0) (hc0 : l0.length ≤ c0) (h : shambleskit_DieOf.f l0 = some r) :
    Calls Try.prog 17 #[.slice A0 l0.length c0] w fun e w' => ∃ g_ : Nat, e = .returned (.pointer (some ⟨g_, 0, none⟩)) ∧ IsS108 w0 w' g_ r ∧ Below w0.heap.size w0 w' ∧ Below w.heap.size w w' := by
  unfold shambleskit_DieOf.f at h
  split at h
  · rename_i hl
    simp only [Option.some.injEq] at h
    subst h
    refine (DieOf_any A0 c0 l0 w ((RdL.of_C hr0).ext hB) hl).mono ?_
    rintro e w' ⟨g, rfl, hg, hO, hE⟩
    exact ⟨g, rfl, ⟨hO, Nat.le_trans hB.size hg⟩, Go.RT.Ext.trans (a := w0) (b := w) hB hE, hE⟩
  · simp at h
end Go.Proofs.Ytebfnjabgkhngaa.Q
end
