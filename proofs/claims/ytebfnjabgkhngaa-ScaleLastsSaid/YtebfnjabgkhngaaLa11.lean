/-
The statement ScaleLasts: proved for every input. Part 11 of 11.
-/
import Derived.Below
import Derived.ChangeOld
import Derived.ChangeSlices
import Derived.OpenShut
import Derived.ProofKit
import Derived.ShutString
import Derived.SizedLaws
import Derived.Test.YtebfnjabgkhngaaRows
import Derived.WalkKit
import Derived.Test.YtebfnjabgkhngaaLa8
import Derived.Test.YtebfnjabgkhngaaLa9
import Derived.Test.YtebfnjabgkhngaaLa10
section
set_option linter.all false
set_option linter.unusedVariables false
set_option linter.unusedSimpArgs false
set_option linter.constructorNameAsVariable false
namespace Go.Proofs.Ytebfnjabgkhngaa.Q
open Go.RowKit Go.Proofs.YtebfnjabgkhngaaW.PrintWords Go.Proofs.YtebfnjabgkhngaaW.PrintLast Go.Proofs.YtebfnjabgkhngaaW.PrintMore
attribute [local go_sem] max2_int min2_int max_two min_two max_three min_three max_four min_four
set_option linter.unusedVariables false
set_option linter.unusedSimpArgs false
mutual
def shambleslaw01_ScaleLasts.j0 : Nat → Int → Int → Bool → Int → Int → Int → Int → Int → Option (Bool)
  | 0, _, _, _, _, _, _, _, _ => none
  | k + 1, x6, x7, x37, x445000, x454000, x454001, x455000, x455001 => if x37 = true then (some false) else ((shambleskit_Die_True.f x445000 x454000 x454001).bind fun bt457 => (shambleslaw01_ScaleLasts.l0 k x6 x7 bt457.1 0 bt457.2 x454000 x454001 x455000 x455001))
def shambleslaw01_ScaleLasts.l0 : Nat → Int → Int → Int → Int → Int → Int → Int → Int → Int → Option (Bool)
  | 0, _, _, _, _, _, _, _, _, _ => none
  | k + 1, x6, x7, x9, x10, x445000, x454000, x454001, x455000, x455001 => if x10 ≤ x7 then (if x9 < (wrap64 (-x6)) then (some false) else (if x9 > x6 then (some false) else ((shambleskit_Die_True.f x445000 x455000 x455001).bind fun bt459 => (shambleslaw01_ScaleLasts.l0 k x6 x7 (wrap64 (x9 + bt459.1)) (wrap64 (x10 + 1)) bt459.2 x454000 x454001 x455000 x455001)))) else (if x7 < 10 then (if (wrap64 (x454000 + (wrap64 ((wrap64 (x7 + 1)) * x455000)))) < (wrap64 (-x6)) then ((shambleslaw01_awake.f).bind fun t461 => (some t461)) else (if (wrap64 (x454001 + (wrap64 ((wrap64 (x7 + 1)) * x455001)))) > x6 then ((shambleslaw01_awake.f).bind fun t462 => (some t462)) else (some false))) else ((shambleslaw01_awake.f).bind fun t463 => (some t463)))
end
def shambleslaw01_ScaleLasts.f (k : Nat) (l0 : List Int) : Option (Bool) := (shambleskit_DieOf.f l0).bind fun t443 => ((shambleskit_Die_Span.f t443 (-9) 9).bind fun bt445 => ((shambleskit_Die_Span.f bt445.2.2 (-3) 3).bind fun bt448 => ((shambleskit_Die_Cast.f bt448.2.2 30).bind fun bt451 => ((scale_Lasts.f bt445.1 bt445.2.1 bt448.1 bt448.2.1 bt451.1).bind fun bt455 => (if bt455.2 = 0 then (if bt455.1 < (-1) then (shambleslaw01_ScaleLasts.j0 k bt451.1 bt455.1 true bt451.2 bt445.1 bt445.2.1 bt448.1 bt448.2.1) else (shambleslaw01_ScaleLasts.j0 k bt451.1 bt455.1 (decide (bt455.1 > 10)) bt451.2 bt445.1 bt445.2.1 bt448.1 bt448.2.1)) else (shambleslaw01_ScaleLasts.j0 k bt451.1 bt455.1 true bt451.2 bt445.1 bt445.2.1 bt448.1 bt448.2.1))))))
theorem shambleslaw01_ScaleLasts.mono_l : ∀ k, (∀ y0 y1 y2 y3 y4 y5 y6 y7, LeO (shambleslaw01_ScaleLasts.j0 k y0 y1 y2 y3 y4 y5 y6 y7) (shambleslaw01_ScaleLasts.j0 (k + 1) y0 y1 y2 y3 y4 y5 y6 y7)) ∧ (∀ y0 y1 y2 y3 y4 y5 y6 y7 y8, LeO (shambleslaw01_ScaleLasts.l0 k y0 y1 y2 y3 y4 y5 y6 y7 y8) (shambleslaw01_ScaleLasts.l0 (k + 1) y0 y1 y2 y3 y4 y5 y6 y7 y8))
  | 0 => ⟨fun _ _ _ _ _ _ _ _ r h => by simp [shambleslaw01_ScaleLasts.j0] at h, fun _ _ _ _ _ _ _ _ _ r h => by simp [shambleslaw01_ScaleLasts.l0] at h⟩
  | k + 1 => by
    obtain ⟨ih0, ih1⟩ := shambleslaw01_ScaleLasts.mono_l k
    refine ⟨?_, ?_⟩
    · intro y0 y1 y2 y3 y4 y5 y6 y7
      unfold shambleslaw01_ScaleLasts.j0
      repeat' first
      | (with_reducible exact ih0 _ _ _ _ _ _ _ _)
      | (with_reducible exact ih1 _ _ _ _ _ _ _ _ _)
      | (with_reducible exact LeO.refl _)
      | (with_reducible exact LeO.none _)
      | (with_reducible refine LeO.ite ?_ ?_)
      | (with_reducible refine LeO.bind ?_ (fun _ => ?_))
      | exact ih0 _ _ _ _ _ _ _ _
      | exact ih1 _ _ _ _ _ _ _ _ _
      | exact LeO.none _
      | refine LeO.ite ?_ ?_
      | refine LeO.bind ?_ (fun _ => ?_)
    · intro y0 y1 y2 y3 y4 y5 y6 y7 y8
      unfold shambleslaw01_ScaleLasts.l0
      repeat' first
      | (with_reducible exact ih0 _ _ _ _ _ _ _ _)
      | (with_reducible exact ih1 _ _ _ _ _ _ _ _ _)
      | (with_reducible exact LeO.refl _)
      | (with_reducible exact LeO.none _)
      | (with_reducible refine LeO.ite ?_ ?_)
      | (with_reducible refine LeO.bind ?_ (fun _ => ?_))
      | exact ih0 _ _ _ _ _ _ _ _
      | exact ih1 _ _ _ _ _ _ _ _ _
      | exact LeO.none _
      | refine LeO.ite ?_ ?_
      | refine LeO.bind ?_ (fun _ => ?_)
set_option maxHeartbeats 8000000 in
set_option maxRecDepth 100000 in
theorem shambleslaw01_ScaleLasts.calls (k : Nat) (A0 : Option Addr) (c0 : Nat) (l0 : List Int) (r : Bool) (w : World) (hr0 : Kd.C (Kd.int .i64) w A0 l0.length l0) (hc0 : l0.length ≤ c0) (h : shambleslaw01_ScaleLasts.f k l0 = some r) :
    Calls Try.prog 5 #[.slice A0 l0.length c0] w fun e w' => e = .returned (.bool r) ∧ Below w.heap.size w w' := by
  have hu50 := Try.underlying50
  have HR0 := Aside0.mk hr0
  have HC0 := Aside0.mk hc0
  clear hr0 hc0
  have HB := Aside0.mk (Below.refl w.heap.size w)
  have H : ((shambleskit_DieOf.f l0).bind fun t443 => ((shambleskit_Die_Span.f t443 (-9) 9).bind fun bt445 => ((shambleskit_Die_Span.f bt445.2.2 (-3) 3).bind fun bt448 => ((shambleskit_Die_Cast.f bt448.2.2 30).bind fun bt451 => ((scale_Lasts.f bt445.1 bt445.2.1 bt448.1 bt448.2.1 bt451.1).bind fun bt455 => (if bt455.2 = 0 then (if bt455.1 < (-1) then (shambleslaw01_ScaleLasts.j0 k bt451.1 bt455.1 true bt451.2 bt445.1 bt445.2.1 bt448.1 bt448.2.1) else (shambleslaw01_ScaleLasts.j0 k bt451.1 bt455.1 (decide (bt455.1 > 10)) bt451.2 bt445.1 bt445.2.1 bt448.1 bt448.2.1)) else (shambleslaw01_ScaleLasts.j0 k bt451.1 bt455.1 true bt451.2 bt445.1 bt445.2.1 bt448.1 bt448.2.1))))))) = some r := h
  clear h
  replace H := Option.bind_eq_some_iff.mp H
  obtain ⟨t443, A20, H⟩ := H
  replace H : ((shambleskit_Die_Span.f t443 (-9) 9).bind fun bt445 => ((shambleskit_Die_Span.f bt445.2.2 (-3) 3).bind fun bt448 => ((shambleskit_Die_Cast.f bt448.2.2 30).bind fun bt451 => ((scale_Lasts.f bt445.1 bt445.2.1 bt448.1 bt448.2.1 bt451.1).bind fun bt455 => (if bt455.2 = 0 then (if bt455.1 < (-1) then (shambleslaw01_ScaleLasts.j0 k bt451.1 bt455.1 true bt451.2 bt445.1 bt445.2.1 bt448.1 bt448.2.1) else (shambleslaw01_ScaleLasts.j0 k bt451.1 bt455.1 (decide (bt455.1 > 10)) bt451.2 bt445.1 bt445.2.1 bt448.1 bt448.2.1)) else (shambleslaw01_ScaleLasts.j0 k bt451.1 bt455.1 true bt451.2 bt445.1 bt445.2.1 bt448.1 bt448.2.1)))))) = some r := H
  have A2 := Aside0.mk A20
  clear A20
  replace H := Option.bind_eq_some_iff.mp H
  obtain ⟨⟨t445, t446, t447⟩, A30, H⟩ := H
  replace H : ((shambleskit_Die_Span.f t447 (-3) 3).bind fun bt448 => ((shambleskit_Die_Cast.f bt448.2.2 30).bind fun bt451 => ((scale_Lasts.f t445 t446 bt448.1 bt448.2.1 bt451.1).bind fun bt455 => (if bt455.2 = 0 then (if bt455.1 < (-1) then (shambleslaw01_ScaleLasts.j0 k bt451.1 bt455.1 true bt451.2 t445 t446 bt448.1 bt448.2.1) else (shambleslaw01_ScaleLasts.j0 k bt451.1 bt455.1 (decide (bt455.1 > 10)) bt451.2 t445 t446 bt448.1 bt448.2.1)) else (shambleslaw01_ScaleLasts.j0 k bt451.1 bt455.1 true bt451.2 t445 t446 bt448.1 bt448.2.1))))) = some r := H
  have A3 := Aside0.mk A30
  clear A30
  replace H := Option.bind_eq_some_iff.mp H
  obtain ⟨⟨t448, t449, t450⟩, A40, H⟩ := H
  replace H : ((shambleskit_Die_Cast.f t450 30).bind fun bt451 => ((scale_Lasts.f t445 t446 t448 t449 bt451.1).bind fun bt455 => (if bt455.2 = 0 then (if bt455.1 < (-1) then (shambleslaw01_ScaleLasts.j0 k bt451.1 bt455.1 true bt451.2 t445 t446 t448 t449) else (shambleslaw01_ScaleLasts.j0 k bt451.1 bt455.1 (decide (bt455.1 > 10)) bt451.2 t445 t446 t448 t449)) else (shambleslaw01_ScaleLasts.j0 k bt451.1 bt455.1 true bt451.2 t445 t446 t448 t449)))) = some r := H
  have A4 := Aside0.mk A40
  clear A40
  replace H := Option.bind_eq_some_iff.mp H
  obtain ⟨⟨t451, t452⟩, A50, H⟩ := H
  replace H : ((scale_Lasts.f t445 t446 t448 t449 t451).bind fun bt455 => (if bt455.2 = 0 then (if bt455.1 < (-1) then (shambleslaw01_ScaleLasts.j0 k t451 bt455.1 true t452 t445 t446 t448 t449) else (shambleslaw01_ScaleLasts.j0 k t451 bt455.1 (decide (bt455.1 > 10)) t452 t445 t446 t448 t449)) else (shambleslaw01_ScaleLasts.j0 k t451 bt455.1 true t452 t445 t446 t448 t449))) = some r := H
  have A5 := Aside0.mk A50
  clear A50
  replace H := Option.bind_eq_some_iff.mp H
  obtain ⟨⟨t455, t456⟩, A60, H⟩ := H
  replace H : (if t456 = 0 then (if t455 < (-1) then (shambleslaw01_ScaleLasts.j0 k t451 t455 true t452 t445 t446 t448 t449) else (shambleslaw01_ScaleLasts.j0 k t451 t455 (decide (t455 > 10)) t452 t445 t446 t448 t449)) else (shambleslaw01_ScaleLasts.j0 k t451 t455 true t452 t445 t446 t448 t449)) = some r := H
  have A6 := Aside0.mk A60
  clear A60
  have HC7 := Aside0.mk H
  clear H
  go_enter Try.func5, Try.ntmps5
  go_upto_region 4 with (first | (go_at_call 17; (with_reducible refine (shambleskit_DieOf.calls _ _ l0 t443 w _ ?side1 ?side2 ?side3 A2.out).mono ?_); (case side1 => repeat (first | (with_reducible first | exact HB.out | apply below_alloc | apply pw_below_drewN | apply below_drew1) | exact HB.out)); (case side2 => exact HR0.out); (case side3 => exact HC0.out); rintro e w8 ⟨g444, rfl, hi, hb, hb2⟩; have n0_ := Aside0.mk (hb); have n1_ := Aside0.mk (hi); clear HB; have HB := n0_; have HI444 := n1_; clear n0_ n1_; (try clear hb); (try clear hb2); (try clear hk); (try clear hi)) | (go_at_call 24; (with_reducible refine (shambleskit_Die_Span.calls g444 t443 (-9) 9 t445 t446 t447 w _ ?side1 ?side2 A3.out).mono ?_); (case side1 => repeat (first | (with_reducible first | exact HI444.out | apply IsS108.alloc | apply IsS108.drewN | apply IsS108.drew | apply IsS108.set_0) | exact HI444.out)); (case side2 => repeat (first | (with_reducible first | exact HB.out | apply below_alloc | apply pw_below_drewN | apply below_drew1 | refine below_set ?_ (IsS108.ge HI444.out)) | exact HB.out)); rintro e w9 ⟨rfl, hi, hb, hk⟩; have n0_ := Aside0.mk (hb); have n1_ := Aside0.mk (hi); clear HB; clear HI444; have HB := n0_; have HI444 := n1_; clear n0_ n1_; (try clear hb); (try clear hb2); (try clear hk); (try clear hi)) | (go_at_call 24; (with_reducible refine (shambleskit_Die_Span.calls g444 t447 (-3) 3 t448 t449 t450 w _ ?side1 ?side2 A4.out).mono ?_); (case side1 => repeat (first | (with_reducible first | exact HI444.out | apply IsS108.alloc | apply IsS108.drewN | apply IsS108.drew | apply IsS108.set_0) | exact HI444.out)); (case side2 => repeat (first | (with_reducible first | exact HB.out | apply below_alloc | apply pw_below_drewN | apply below_drew1 | refine below_set ?_ (IsS108.ge HI444.out)) | exact HB.out)); rintro e w10 ⟨rfl, hi, hb, hk⟩; have n0_ := Aside0.mk (hb); have n1_ := Aside0.mk (hi); clear HB; clear HI444; have HB := n0_; have HI444 := n1_; clear n0_ n1_; (try clear hb); (try clear hb2); (try clear hk); (try clear hi)) | (go_at_call 25; (with_reducible refine (shambleskit_Die_Cast.calls g444 t450 30 t451 t452 w _ ?side1 ?side2 A5.out).mono ?_); (case side1 => repeat (first | (with_reducible first | exact HI444.out | apply IsS108.alloc | apply IsS108.drewN | apply IsS108.drew | apply IsS108.set_0) | exact HI444.out)); (case side2 => repeat (first | (with_reducible first | exact HB.out | apply below_alloc | apply pw_below_drewN | apply below_drew1 | refine below_set ?_ (IsS108.ge HI444.out)) | exact HB.out)); rintro e w11 ⟨rfl, hi, hb, hk⟩; have n0_ := Aside0.mk (hb); have n1_ := Aside0.mk (hi); clear HB; clear HI444; have HB := n0_; have HI444 := n1_; clear n0_ n1_; (try clear hb); (try clear hb2); (try clear hk); (try clear hi)) | ((with_reducible refine gate_dst (N := 4) rfl ?_); refine box_event ?hg (N := 4) ?hd (cs := #[.int .i64 0, .int .i64 0]) (t := 50) ?hr ?_; (case hd => rfl); (case hg => rfl); (case hr => first | (go_simp; done) | (go_simp; rfl)); intro gb453 hg w12 hbox hb; have n0_ := Aside0.mk (IsS108.below (by repeat (first | (with_reducible first | exact HI444.out | apply IsS108.alloc | apply IsS108.drewN | apply IsS108.drew | apply IsS108.set_0) | exact HI444.out)) hb); have n1_ := Aside0.mk (below_step (by repeat (first | (with_reducible first | exact HB.out | apply below_alloc | apply pw_below_drewN | apply below_drew1 | refine below_set ?_ (IsS108.ge HI444.out)) | exact HB.out)) hb); have n2_ := Aside0.mk (hbox); have n3_ := Aside0.mk ((by rw [hg]; exact (below_size (by repeat (first | (with_reducible first | exact HB.out | apply below_alloc | apply pw_below_drewN | apply below_drew1 | refine below_set ?_ (IsS108.ge HI444.out)) | exact HB.out))) : w.heap.size ≤ gb453)); have n4_ := Aside0.mk ((by rw [hg]; exact (below_size (by repeat (first | (with_reducible first | exact HB.out | apply below_alloc | apply pw_below_drewN | apply below_drew1 | refine below_set ?_ (IsS108.ge HI444.out)) | exact HB.out))) : w.heap.size ≤ gb453)); have n5_ := Aside0.mk ((by rw [hg]; exact Nat.ne_of_lt (IsS108.lt (show IsS108 w _ g444 t452 from by repeat (first | (with_reducible first | exact HI444.out | apply IsS108.alloc | apply IsS108.drewN | apply IsS108.drew | apply IsS108.set_0) | exact HI444.out))) : g444 ≠ gb453)); have n6_ := Aside0.mk ((by rw [hg]; exact Nat.ne_of_gt (IsS108.lt (show IsS108 w _ g444 t452 from by repeat (first | (with_reducible first | exact HI444.out | apply IsS108.alloc | apply IsS108.drewN | apply IsS108.drew | apply IsS108.set_0) | exact HI444.out))) : gb453 ≠ g444)); clear HI444; clear HB; have HI444 := n0_; have HB := n1_; have BK453 := n2_; have GW453 := n3_; have GE453 := n4_; have NB444_453 := n5_; have NB453_444 := n6_; clear n0_ n1_ n2_ n3_ n4_ n5_ n6_; clear hb hbox hg) | ((with_reducible refine gate_dst (N := 5) rfl ?_); refine box_event ?hg (N := 5) ?hd (cs := #[.int .i64 0, .int .i64 0]) (t := 50) ?hr ?_; (case hd => rfl); (case hg => rfl); (case hr => first | (go_simp; done) | (go_simp; rfl)); intro gb454 hg w13 hbox hb; have n0_ := Aside0.mk (IsS108.below (by repeat (first | (with_reducible first | exact HI444.out | apply IsS108.alloc | apply IsS108.drewN | apply IsS108.drew | apply IsS108.set_0 | refine IsS108.far ?_ NB444_453.out _) | exact HI444.out)) hb); have n1_ := Aside0.mk (blk_below (g := gb453) (o := .cells #[.int .i64 0, .int .i64 0] 50 (0, 0)) (by (with_reducible repeat (first | refine blk_drewN ?_ _ | refine blk_drew ?_ | refine blk_alloc ?_ _)); exact BK453.out) hb); have n2_ := Aside0.mk (below_step (by repeat (first | (with_reducible first | exact HB.out | apply below_alloc | apply pw_below_drewN | apply below_drew1 | refine below_set ?_ (IsS108.ge HI444.out) | refine below_set ?_ GE453.out) | exact HB.out)) hb); have n3_ := Aside0.mk (hbox); have n4_ := Aside0.mk ((by rw [hg]; exact (below_size (by repeat (first | (with_reducible first | exact HB.out | apply below_alloc | apply pw_below_drewN | apply below_drew1 | refine below_set ?_ (IsS108.ge HI444.out) | refine below_set ?_ GE453.out) | exact HB.out))) : w.heap.size ≤ gb454)); have n5_ := Aside0.mk ((by rw [hg]; exact (below_size (by repeat (first | (with_reducible first | exact HB.out | apply below_alloc | apply pw_below_drewN | apply below_drew1 | refine below_set ?_ (IsS108.ge HI444.out) | refine below_set ?_ GE453.out) | exact HB.out))) : w.heap.size ≤ gb454)); have n6_ := Aside0.mk ((by rw [hg]; exact Nat.ne_of_lt (blk_lt (g := gb453) (o := .cells #[.int .i64 0, .int .i64 0] 50 (0, 0)) (by (with_reducible repeat (first | refine blk_drewN ?_ _ | refine blk_drew ?_ | refine blk_alloc ?_ _)); exact BK453.out)) : gb453 ≠ gb454)); have n7_ := Aside0.mk ((by rw [hg]; exact Nat.ne_of_gt (blk_lt (g := gb453) (o := .cells #[.int .i64 0, .int .i64 0] 50 (0, 0)) (by (with_reducible repeat (first | refine blk_drewN ?_ _ | refine blk_drew ?_ | refine blk_alloc ?_ _)); exact BK453.out)) : gb454 ≠ gb453)); have n8_ := Aside0.mk ((by rw [hg]; exact Nat.ne_of_lt (IsS108.lt (show IsS108 w _ g444 t452 from by repeat (first | (with_reducible first | exact HI444.out | apply IsS108.alloc | apply IsS108.drewN | apply IsS108.drew | apply IsS108.set_0 | refine IsS108.far ?_ NB444_453.out _) | exact HI444.out))) : g444 ≠ gb454)); have n9_ := Aside0.mk ((by rw [hg]; exact Nat.ne_of_gt (IsS108.lt (show IsS108 w _ g444 t452 from by repeat (first | (with_reducible first | exact HI444.out | apply IsS108.alloc | apply IsS108.drewN | apply IsS108.drew | apply IsS108.set_0 | refine IsS108.far ?_ NB444_453.out _) | exact HI444.out))) : gb454 ≠ g444)); clear HI444; clear BK453; clear HB; have HI444 := n0_; have BK453 := n1_; have HB := n2_; have BK454 := n3_; have GW454 := n4_; have GE454 := n5_; have NB453_454 := n6_; have NB454_453 := n7_; have NB444_454 := n8_; have NB454_444 := n9_; clear n0_ n1_ n2_ n3_ n4_ n5_ n6_ n7_ n8_ n9_; clear hb hbox hg; have hnb14 := NB453_454.out; have hnc14 := NB454_453.out; have hnb15 := NB453_444.out; have hnc15 := NB444_453.out; have hcz16_0 : w13.cell? ⟨gb453, 0, none⟩ = some (.int .i64 0) := (blk_cell BK453.out 0).trans rfl; have hcz16_1 : w13.cell? ⟨gb453, 1, none⟩ = some (.int .i64 0) := (blk_cell BK453.out 1).trans rfl; have hfz16_0 := blk_frozen BK453.out 0; have hfz16_1 := blk_frozen BK453.out 1; have hnb17 := NB454_444.out; have hnc17 := NB444_454.out; have hcz18_0 : w13.cell? ⟨gb454, 0, none⟩ = some (.int .i64 0) := (blk_cell BK454.out 0).trans rfl; have hcz18_1 : w13.cell? ⟨gb454, 1, none⟩ = some (.int .i64 0) := (blk_cell BK454.out 1).trans rfl; have hfz18_0 := blk_frozen BK454.out 0; have hfz18_1 := blk_frozen BK454.out 1) | (go_at_call 26; (with_reducible refine (scale_Lasts.calls t445 t446 t448 t449 t451 t455 t456 _ A6.out).mono ?_); rintro e w19 ⟨rfl, hb⟩; have n0_ := Aside0.mk (IsS108.below (show IsS108 w ((((w13.setCell ⟨gb453, 0, none⟩ (.int .i64 t445)).setCell ⟨gb453, 1, none⟩ (.int .i64 t446)).setCell ⟨gb454, 0, none⟩ (.int .i64 t448)).setCell ⟨gb454, 1, none⟩ (.int .i64 t449)) g444 t452 from by repeat (first | (with_reducible first | exact HI444.out | apply IsS108.alloc | apply IsS108.drewN | apply IsS108.drew | apply IsS108.set_0 | refine IsS108.far ?_ NB444_453.out _ | refine IsS108.far ?_ NB444_454.out _) | exact HI444.out)) hb); have n1_ := Aside0.mk (blk_below (g := gb453) (o := .cells #[.int .i64 t445, .int .i64 t446] 50 (0, 0)) (by (with_reducible repeat (first | refine blk_drewN ?_ _ | refine blk_drew ?_ | refine blk_alloc ?_ _)); refine blk_far ?_ NB453_454.out _; (with_reducible repeat (first | refine blk_drewN ?_ _ | refine blk_drew ?_ | refine blk_alloc ?_ _)); refine blk_far ?_ NB453_454.out _; (with_reducible repeat (first | refine blk_drewN ?_ _ | refine blk_drew ?_ | refine blk_alloc ?_ _)); refine blk_put (cs := #[.int .i64 t445, .int .i64 0]) ?_ 1 _ rfl; (with_reducible repeat (first | refine blk_drewN ?_ _ | refine blk_drew ?_ | refine blk_alloc ?_ _)); refine blk_put (cs := #[.int .i64 0, .int .i64 0]) ?_ 0 _ rfl; (with_reducible repeat (first | refine blk_drewN ?_ _ | refine blk_drew ?_ | refine blk_alloc ?_ _)); exact BK453.out) hb); have n2_ := Aside0.mk (blk_below (g := gb454) (o := .cells #[.int .i64 t448, .int .i64 t449] 50 (0, 0)) (by (with_reducible repeat (first | refine blk_drewN ?_ _ | refine blk_drew ?_ | refine blk_alloc ?_ _)); refine blk_put (cs := #[.int .i64 t448, .int .i64 0]) ?_ 1 _ rfl; (with_reducible repeat (first | refine blk_drewN ?_ _ | refine blk_drew ?_ | refine blk_alloc ?_ _)); refine blk_put (cs := #[.int .i64 0, .int .i64 0]) ?_ 0 _ rfl; (with_reducible repeat (first | refine blk_drewN ?_ _ | refine blk_drew ?_ | refine blk_alloc ?_ _)); refine blk_far ?_ NB454_453.out _; (with_reducible repeat (first | refine blk_drewN ?_ _ | refine blk_drew ?_ | refine blk_alloc ?_ _)); refine blk_far ?_ NB454_453.out _; (with_reducible repeat (first | refine blk_drewN ?_ _ | refine blk_drew ?_ | refine blk_alloc ?_ _)); exact BK454.out) hb); have n3_ := Aside0.mk (below_step (by repeat (first | (with_reducible first | exact HB.out | apply below_alloc | apply pw_below_drewN | apply below_drew1 | refine below_set ?_ (IsS108.ge HI444.out) | refine below_set ?_ GE453.out | refine below_set ?_ GE454.out) | exact HB.out)) hb); clear HI444; clear BK453; clear BK454; clear HB; have HI444 := n0_; have BK453 := n1_; have BK454 := n2_; have HB := n3_; clear n0_ n1_ n2_ n3_; (try clear hb); (try clear hb2); (try clear hk); (try clear hi)))
  repeat (go_quiet (first | (go_at_call 17; (with_reducible refine (shambleskit_DieOf.calls _ _ l0 t443 w _ ?side1 ?side2 ?side3 A2.out).mono ?_); (case side1 => repeat (first | (with_reducible first | exact HB.out | apply below_alloc | apply pw_below_drewN | apply below_drew1) | exact HB.out)); (case side2 => exact HR0.out); (case side3 => exact HC0.out); rintro e w8 ⟨g444, rfl, hi, hb, hb2⟩; have n0_ := Aside0.mk (hb); have n1_ := Aside0.mk (hi); clear HB; have HB := n0_; have HI444 := n1_; clear n0_ n1_; (try clear hb); (try clear hb2); (try clear hk); (try clear hi)) | (go_at_call 24; (with_reducible refine (shambleskit_Die_Span.calls g444 t443 (-9) 9 t445 t446 t447 w _ ?side1 ?side2 A3.out).mono ?_); (case side1 => repeat (first | (with_reducible first | exact HI444.out | apply IsS108.alloc | apply IsS108.drewN | apply IsS108.drew | apply IsS108.set_0) | exact HI444.out)); (case side2 => repeat (first | (with_reducible first | exact HB.out | apply below_alloc | apply pw_below_drewN | apply below_drew1 | refine below_set ?_ (IsS108.ge HI444.out)) | exact HB.out)); rintro e w9 ⟨rfl, hi, hb, hk⟩; have n0_ := Aside0.mk (hb); have n1_ := Aside0.mk (hi); clear HB; clear HI444; have HB := n0_; have HI444 := n1_; clear n0_ n1_; (try clear hb); (try clear hb2); (try clear hk); (try clear hi)) | (go_at_call 24; (with_reducible refine (shambleskit_Die_Span.calls g444 t447 (-3) 3 t448 t449 t450 w _ ?side1 ?side2 A4.out).mono ?_); (case side1 => repeat (first | (with_reducible first | exact HI444.out | apply IsS108.alloc | apply IsS108.drewN | apply IsS108.drew | apply IsS108.set_0) | exact HI444.out)); (case side2 => repeat (first | (with_reducible first | exact HB.out | apply below_alloc | apply pw_below_drewN | apply below_drew1 | refine below_set ?_ (IsS108.ge HI444.out)) | exact HB.out)); rintro e w10 ⟨rfl, hi, hb, hk⟩; have n0_ := Aside0.mk (hb); have n1_ := Aside0.mk (hi); clear HB; clear HI444; have HB := n0_; have HI444 := n1_; clear n0_ n1_; (try clear hb); (try clear hb2); (try clear hk); (try clear hi)) | (go_at_call 25; (with_reducible refine (shambleskit_Die_Cast.calls g444 t450 30 t451 t452 w _ ?side1 ?side2 A5.out).mono ?_); (case side1 => repeat (first | (with_reducible first | exact HI444.out | apply IsS108.alloc | apply IsS108.drewN | apply IsS108.drew | apply IsS108.set_0) | exact HI444.out)); (case side2 => repeat (first | (with_reducible first | exact HB.out | apply below_alloc | apply pw_below_drewN | apply below_drew1 | refine below_set ?_ (IsS108.ge HI444.out)) | exact HB.out)); rintro e w11 ⟨rfl, hi, hb, hk⟩; have n0_ := Aside0.mk (hb); have n1_ := Aside0.mk (hi); clear HB; clear HI444; have HB := n0_; have HI444 := n1_; clear n0_ n1_; (try clear hb); (try clear hb2); (try clear hk); (try clear hi)) | ((with_reducible refine gate_dst (N := 4) rfl ?_); refine box_event ?hg (N := 4) ?hd (cs := #[.int .i64 0, .int .i64 0]) (t := 50) ?hr ?_; (case hd => rfl); (case hg => rfl); (case hr => first | (go_simp; done) | (go_simp; rfl)); intro gb453 hg w12 hbox hb; have n0_ := Aside0.mk (IsS108.below (by repeat (first | (with_reducible first | exact HI444.out | apply IsS108.alloc | apply IsS108.drewN | apply IsS108.drew | apply IsS108.set_0) | exact HI444.out)) hb); have n1_ := Aside0.mk (below_step (by repeat (first | (with_reducible first | exact HB.out | apply below_alloc | apply pw_below_drewN | apply below_drew1 | refine below_set ?_ (IsS108.ge HI444.out)) | exact HB.out)) hb); have n2_ := Aside0.mk (hbox); have n3_ := Aside0.mk ((by rw [hg]; exact (below_size (by repeat (first | (with_reducible first | exact HB.out | apply below_alloc | apply pw_below_drewN | apply below_drew1 | refine below_set ?_ (IsS108.ge HI444.out)) | exact HB.out))) : w.heap.size ≤ gb453)); have n4_ := Aside0.mk ((by rw [hg]; exact (below_size (by repeat (first | (with_reducible first | exact HB.out | apply below_alloc | apply pw_below_drewN | apply below_drew1 | refine below_set ?_ (IsS108.ge HI444.out)) | exact HB.out))) : w.heap.size ≤ gb453)); have n5_ := Aside0.mk ((by rw [hg]; exact Nat.ne_of_lt (IsS108.lt (show IsS108 w _ g444 t452 from by repeat (first | (with_reducible first | exact HI444.out | apply IsS108.alloc | apply IsS108.drewN | apply IsS108.drew | apply IsS108.set_0) | exact HI444.out))) : g444 ≠ gb453)); have n6_ := Aside0.mk ((by rw [hg]; exact Nat.ne_of_gt (IsS108.lt (show IsS108 w _ g444 t452 from by repeat (first | (with_reducible first | exact HI444.out | apply IsS108.alloc | apply IsS108.drewN | apply IsS108.drew | apply IsS108.set_0) | exact HI444.out))) : gb453 ≠ g444)); clear HI444; clear HB; have HI444 := n0_; have HB := n1_; have BK453 := n2_; have GW453 := n3_; have GE453 := n4_; have NB444_453 := n5_; have NB453_444 := n6_; clear n0_ n1_ n2_ n3_ n4_ n5_ n6_; clear hb hbox hg) | ((with_reducible refine gate_dst (N := 5) rfl ?_); refine box_event ?hg (N := 5) ?hd (cs := #[.int .i64 0, .int .i64 0]) (t := 50) ?hr ?_; (case hd => rfl); (case hg => rfl); (case hr => first | (go_simp; done) | (go_simp; rfl)); intro gb454 hg w13 hbox hb; have n0_ := Aside0.mk (IsS108.below (by repeat (first | (with_reducible first | exact HI444.out | apply IsS108.alloc | apply IsS108.drewN | apply IsS108.drew | apply IsS108.set_0 | refine IsS108.far ?_ NB444_453.out _) | exact HI444.out)) hb); have n1_ := Aside0.mk (blk_below (g := gb453) (o := .cells #[.int .i64 0, .int .i64 0] 50 (0, 0)) (by (with_reducible repeat (first | refine blk_drewN ?_ _ | refine blk_drew ?_ | refine blk_alloc ?_ _)); exact BK453.out) hb); have n2_ := Aside0.mk (below_step (by repeat (first | (with_reducible first | exact HB.out | apply below_alloc | apply pw_below_drewN | apply below_drew1 | refine below_set ?_ (IsS108.ge HI444.out) | refine below_set ?_ GE453.out) | exact HB.out)) hb); have n3_ := Aside0.mk (hbox); have n4_ := Aside0.mk ((by rw [hg]; exact (below_size (by repeat (first | (with_reducible first | exact HB.out | apply below_alloc | apply pw_below_drewN | apply below_drew1 | refine below_set ?_ (IsS108.ge HI444.out) | refine below_set ?_ GE453.out) | exact HB.out))) : w.heap.size ≤ gb454)); have n5_ := Aside0.mk ((by rw [hg]; exact (below_size (by repeat (first | (with_reducible first | exact HB.out | apply below_alloc | apply pw_below_drewN | apply below_drew1 | refine below_set ?_ (IsS108.ge HI444.out) | refine below_set ?_ GE453.out) | exact HB.out))) : w.heap.size ≤ gb454)); have n6_ := Aside0.mk ((by rw [hg]; exact Nat.ne_of_lt (blk_lt (g := gb453) (o := .cells #[.int .i64 0, .int .i64 0] 50 (0, 0)) (by (with_reducible repeat (first | refine blk_drewN ?_ _ | refine blk_drew ?_ | refine blk_alloc ?_ _)); exact BK453.out)) : gb453 ≠ gb454)); have n7_ := Aside0.mk ((by rw [hg]; exact Nat.ne_of_gt (blk_lt (g := gb453) (o := .cells #[.int .i64 0, .int .i64 0] 50 (0, 0)) (by (with_reducible repeat (first | refine blk_drewN ?_ _ | refine blk_drew ?_ | refine blk_alloc ?_ _)); exact BK453.out)) : gb454 ≠ gb453)); have n8_ := Aside0.mk ((by rw [hg]; exact Nat.ne_of_lt (IsS108.lt (show IsS108 w _ g444 t452 from by repeat (first | (with_reducible first | exact HI444.out | apply IsS108.alloc | apply IsS108.drewN | apply IsS108.drew | apply IsS108.set_0 | refine IsS108.far ?_ NB444_453.out _) | exact HI444.out))) : g444 ≠ gb454)); have n9_ := Aside0.mk ((by rw [hg]; exact Nat.ne_of_gt (IsS108.lt (show IsS108 w _ g444 t452 from by repeat (first | (with_reducible first | exact HI444.out | apply IsS108.alloc | apply IsS108.drewN | apply IsS108.drew | apply IsS108.set_0 | refine IsS108.far ?_ NB444_453.out _) | exact HI444.out))) : gb454 ≠ g444)); clear HI444; clear BK453; clear HB; have HI444 := n0_; have BK453 := n1_; have HB := n2_; have BK454 := n3_; have GW454 := n4_; have GE454 := n5_; have NB453_454 := n6_; have NB454_453 := n7_; have NB444_454 := n8_; have NB454_444 := n9_; clear n0_ n1_ n2_ n3_ n4_ n5_ n6_ n7_ n8_ n9_; clear hb hbox hg; have hnb14 := NB453_454.out; have hnc14 := NB454_453.out; have hnb15 := NB453_444.out; have hnc15 := NB444_453.out; have hcz16_0 : w13.cell? ⟨gb453, 0, none⟩ = some (.int .i64 0) := (blk_cell BK453.out 0).trans rfl; have hcz16_1 : w13.cell? ⟨gb453, 1, none⟩ = some (.int .i64 0) := (blk_cell BK453.out 1).trans rfl; have hfz16_0 := blk_frozen BK453.out 0; have hfz16_1 := blk_frozen BK453.out 1; have hnb17 := NB454_444.out; have hnc17 := NB444_454.out; have hcz18_0 : w13.cell? ⟨gb454, 0, none⟩ = some (.int .i64 0) := (blk_cell BK454.out 0).trans rfl; have hcz18_1 : w13.cell? ⟨gb454, 1, none⟩ = some (.int .i64 0) := (blk_cell BK454.out 1).trans rfl; have hfz18_0 := blk_frozen BK454.out 0; have hfz18_1 := blk_frozen BK454.out 1) | (go_at_call 26; (with_reducible refine (scale_Lasts.calls t445 t446 t448 t449 t451 t455 t456 _ A6.out).mono ?_); rintro e w19 ⟨rfl, hb⟩; have n0_ := Aside0.mk (IsS108.below (show IsS108 w ((((w13.setCell ⟨gb453, 0, none⟩ (.int .i64 t445)).setCell ⟨gb453, 1, none⟩ (.int .i64 t446)).setCell ⟨gb454, 0, none⟩ (.int .i64 t448)).setCell ⟨gb454, 1, none⟩ (.int .i64 t449)) g444 t452 from by repeat (first | (with_reducible first | exact HI444.out | apply IsS108.alloc | apply IsS108.drewN | apply IsS108.drew | apply IsS108.set_0 | refine IsS108.far ?_ NB444_453.out _ | refine IsS108.far ?_ NB444_454.out _) | exact HI444.out)) hb); have n1_ := Aside0.mk (blk_below (g := gb453) (o := .cells #[.int .i64 t445, .int .i64 t446] 50 (0, 0)) (by (with_reducible repeat (first | refine blk_drewN ?_ _ | refine blk_drew ?_ | refine blk_alloc ?_ _)); refine blk_far ?_ NB453_454.out _; (with_reducible repeat (first | refine blk_drewN ?_ _ | refine blk_drew ?_ | refine blk_alloc ?_ _)); refine blk_far ?_ NB453_454.out _; (with_reducible repeat (first | refine blk_drewN ?_ _ | refine blk_drew ?_ | refine blk_alloc ?_ _)); refine blk_put (cs := #[.int .i64 t445, .int .i64 0]) ?_ 1 _ rfl; (with_reducible repeat (first | refine blk_drewN ?_ _ | refine blk_drew ?_ | refine blk_alloc ?_ _)); refine blk_put (cs := #[.int .i64 0, .int .i64 0]) ?_ 0 _ rfl; (with_reducible repeat (first | refine blk_drewN ?_ _ | refine blk_drew ?_ | refine blk_alloc ?_ _)); exact BK453.out) hb); have n2_ := Aside0.mk (blk_below (g := gb454) (o := .cells #[.int .i64 t448, .int .i64 t449] 50 (0, 0)) (by (with_reducible repeat (first | refine blk_drewN ?_ _ | refine blk_drew ?_ | refine blk_alloc ?_ _)); refine blk_put (cs := #[.int .i64 t448, .int .i64 0]) ?_ 1 _ rfl; (with_reducible repeat (first | refine blk_drewN ?_ _ | refine blk_drew ?_ | refine blk_alloc ?_ _)); refine blk_put (cs := #[.int .i64 0, .int .i64 0]) ?_ 0 _ rfl; (with_reducible repeat (first | refine blk_drewN ?_ _ | refine blk_drew ?_ | refine blk_alloc ?_ _)); refine blk_far ?_ NB454_453.out _; (with_reducible repeat (first | refine blk_drewN ?_ _ | refine blk_drew ?_ | refine blk_alloc ?_ _)); refine blk_far ?_ NB454_453.out _; (with_reducible repeat (first | refine blk_drewN ?_ _ | refine blk_drew ?_ | refine blk_alloc ?_ _)); exact BK454.out) hb); have n3_ := Aside0.mk (below_step (by repeat (first | (with_reducible first | exact HB.out | apply below_alloc | apply pw_below_drewN | apply below_drew1 | refine below_set ?_ (IsS108.ge HI444.out) | refine below_set ?_ GE453.out | refine below_set ?_ GE454.out) | exact HB.out)) hb); clear HI444; clear BK453; clear BK454; clear HB; have HI444 := n0_; have BK453 := n1_; have BK454 := n2_; have HB := n3_; clear n0_ n1_ n2_ n3_; (try clear hb); (try clear hb2); (try clear hk); (try clear hi))); go_upto_region 4 with (first | (go_at_call 17; (with_reducible refine (shambleskit_DieOf.calls _ _ l0 t443 w _ ?side1 ?side2 ?side3 A2.out).mono ?_); (case side1 => repeat (first | (with_reducible first | exact HB.out | apply below_alloc | apply pw_below_drewN | apply below_drew1) | exact HB.out)); (case side2 => exact HR0.out); (case side3 => exact HC0.out); rintro e w8 ⟨g444, rfl, hi, hb, hb2⟩; have n0_ := Aside0.mk (hb); have n1_ := Aside0.mk (hi); clear HB; have HB := n0_; have HI444 := n1_; clear n0_ n1_; (try clear hb); (try clear hb2); (try clear hk); (try clear hi)) | (go_at_call 24; (with_reducible refine (shambleskit_Die_Span.calls g444 t443 (-9) 9 t445 t446 t447 w _ ?side1 ?side2 A3.out).mono ?_); (case side1 => repeat (first | (with_reducible first | exact HI444.out | apply IsS108.alloc | apply IsS108.drewN | apply IsS108.drew | apply IsS108.set_0) | exact HI444.out)); (case side2 => repeat (first | (with_reducible first | exact HB.out | apply below_alloc | apply pw_below_drewN | apply below_drew1 | refine below_set ?_ (IsS108.ge HI444.out)) | exact HB.out)); rintro e w9 ⟨rfl, hi, hb, hk⟩; have n0_ := Aside0.mk (hb); have n1_ := Aside0.mk (hi); clear HB; clear HI444; have HB := n0_; have HI444 := n1_; clear n0_ n1_; (try clear hb); (try clear hb2); (try clear hk); (try clear hi)) | (go_at_call 24; (with_reducible refine (shambleskit_Die_Span.calls g444 t447 (-3) 3 t448 t449 t450 w _ ?side1 ?side2 A4.out).mono ?_); (case side1 => repeat (first | (with_reducible first | exact HI444.out | apply IsS108.alloc | apply IsS108.drewN | apply IsS108.drew | apply IsS108.set_0) | exact HI444.out)); (case side2 => repeat (first | (with_reducible first | exact HB.out | apply below_alloc | apply pw_below_drewN | apply below_drew1 | refine below_set ?_ (IsS108.ge HI444.out)) | exact HB.out)); rintro e w10 ⟨rfl, hi, hb, hk⟩; have n0_ := Aside0.mk (hb); have n1_ := Aside0.mk (hi); clear HB; clear HI444; have HB := n0_; have HI444 := n1_; clear n0_ n1_; (try clear hb); (try clear hb2); (try clear hk); (try clear hi)) | (go_at_call 25; (with_reducible refine (shambleskit_Die_Cast.calls g444 t450 30 t451 t452 w _ ?side1 ?side2 A5.out).mono ?_); (case side1 => repeat (first | (with_reducible first | exact HI444.out | apply IsS108.alloc | apply IsS108.drewN | apply IsS108.drew | apply IsS108.set_0) | exact HI444.out)); (case side2 => repeat (first | (with_reducible first | exact HB.out | apply below_alloc | apply pw_below_drewN | apply below_drew1 | refine below_set ?_ (IsS108.ge HI444.out)) | exact HB.out)); rintro e w11 ⟨rfl, hi, hb, hk⟩; have n0_ := Aside0.mk (hb); have n1_ := Aside0.mk (hi); clear HB; clear HI444; have HB := n0_; have HI444 := n1_; clear n0_ n1_; (try clear hb); (try clear hb2); (try clear hk); (try clear hi)) | ((with_reducible refine gate_dst (N := 4) rfl ?_); refine box_event ?hg (N := 4) ?hd (cs := #[.int .i64 0, .int .i64 0]) (t := 50) ?hr ?_; (case hd => rfl); (case hg => rfl); (case hr => first | (go_simp; done) | (go_simp; rfl)); intro gb453 hg w12 hbox hb; have n0_ := Aside0.mk (IsS108.below (by repeat (first | (with_reducible first | exact HI444.out | apply IsS108.alloc | apply IsS108.drewN | apply IsS108.drew | apply IsS108.set_0) | exact HI444.out)) hb); have n1_ := Aside0.mk (below_step (by repeat (first | (with_reducible first | exact HB.out | apply below_alloc | apply pw_below_drewN | apply below_drew1 | refine below_set ?_ (IsS108.ge HI444.out)) | exact HB.out)) hb); have n2_ := Aside0.mk (hbox); have n3_ := Aside0.mk ((by rw [hg]; exact (below_size (by repeat (first | (with_reducible first | exact HB.out | apply below_alloc | apply pw_below_drewN | apply below_drew1 | refine below_set ?_ (IsS108.ge HI444.out)) | exact HB.out))) : w.heap.size ≤ gb453)); have n4_ := Aside0.mk ((by rw [hg]; exact (below_size (by repeat (first | (with_reducible first | exact HB.out | apply below_alloc | apply pw_below_drewN | apply below_drew1 | refine below_set ?_ (IsS108.ge HI444.out)) | exact HB.out))) : w.heap.size ≤ gb453)); have n5_ := Aside0.mk ((by rw [hg]; exact Nat.ne_of_lt (IsS108.lt (show IsS108 w _ g444 t452 from by repeat (first | (with_reducible first | exact HI444.out | apply IsS108.alloc | apply IsS108.drewN | apply IsS108.drew | apply IsS108.set_0) | exact HI444.out))) : g444 ≠ gb453)); have n6_ := Aside0.mk ((by rw [hg]; exact Nat.ne_of_gt (IsS108.lt (show IsS108 w _ g444 t452 from by repeat (first | (with_reducible first | exact HI444.out | apply IsS108.alloc | apply IsS108.drewN | apply IsS108.drew | apply IsS108.set_0) | exact HI444.out))) : gb453 ≠ g444)); clear HI444; clear HB; have HI444 := n0_; have HB := n1_; have BK453 := n2_; have GW453 := n3_; have GE453 := n4_; have NB444_453 := n5_; have NB453_444 := n6_; clear n0_ n1_ n2_ n3_ n4_ n5_ n6_; clear hb hbox hg) | ((with_reducible refine gate_dst (N := 5) rfl ?_); refine box_event ?hg (N := 5) ?hd (cs := #[.int .i64 0, .int .i64 0]) (t := 50) ?hr ?_; (case hd => rfl); (case hg => rfl); (case hr => first | (go_simp; done) | (go_simp; rfl)); intro gb454 hg w13 hbox hb; have n0_ := Aside0.mk (IsS108.below (by repeat (first | (with_reducible first | exact HI444.out | apply IsS108.alloc | apply IsS108.drewN | apply IsS108.drew | apply IsS108.set_0 | refine IsS108.far ?_ NB444_453.out _) | exact HI444.out)) hb); have n1_ := Aside0.mk (blk_below (g := gb453) (o := .cells #[.int .i64 0, .int .i64 0] 50 (0, 0)) (by (with_reducible repeat (first | refine blk_drewN ?_ _ | refine blk_drew ?_ | refine blk_alloc ?_ _)); exact BK453.out) hb); have n2_ := Aside0.mk (below_step (by repeat (first | (with_reducible first | exact HB.out | apply below_alloc | apply pw_below_drewN | apply below_drew1 | refine below_set ?_ (IsS108.ge HI444.out) | refine below_set ?_ GE453.out) | exact HB.out)) hb); have n3_ := Aside0.mk (hbox); have n4_ := Aside0.mk ((by rw [hg]; exact (below_size (by repeat (first | (with_reducible first | exact HB.out | apply below_alloc | apply pw_below_drewN | apply below_drew1 | refine below_set ?_ (IsS108.ge HI444.out) | refine below_set ?_ GE453.out) | exact HB.out))) : w.heap.size ≤ gb454)); have n5_ := Aside0.mk ((by rw [hg]; exact (below_size (by repeat (first | (with_reducible first | exact HB.out | apply below_alloc | apply pw_below_drewN | apply below_drew1 | refine below_set ?_ (IsS108.ge HI444.out) | refine below_set ?_ GE453.out) | exact HB.out))) : w.heap.size ≤ gb454)); have n6_ := Aside0.mk ((by rw [hg]; exact Nat.ne_of_lt (blk_lt (g := gb453) (o := .cells #[.int .i64 0, .int .i64 0] 50 (0, 0)) (by (with_reducible repeat (first | refine blk_drewN ?_ _ | refine blk_drew ?_ | refine blk_alloc ?_ _)); exact BK453.out)) : gb453 ≠ gb454)); have n7_ := Aside0.mk ((by rw [hg]; exact Nat.ne_of_gt (blk_lt (g := gb453) (o := .cells #[.int .i64 0, .int .i64 0] 50 (0, 0)) (by (with_reducible repeat (first | refine blk_drewN ?_ _ | refine blk_drew ?_ | refine blk_alloc ?_ _)); exact BK453.out)) : gb454 ≠ gb453)); have n8_ := Aside0.mk ((by rw [hg]; exact Nat.ne_of_lt (IsS108.lt (show IsS108 w _ g444 t452 from by repeat (first | (with_reducible first | exact HI444.out | apply IsS108.alloc | apply IsS108.drewN | apply IsS108.drew | apply IsS108.set_0 | refine IsS108.far ?_ NB444_453.out _) | exact HI444.out))) : g444 ≠ gb454)); have n9_ := Aside0.mk ((by rw [hg]; exact Nat.ne_of_gt (IsS108.lt (show IsS108 w _ g444 t452 from by repeat (first | (with_reducible first | exact HI444.out | apply IsS108.alloc | apply IsS108.drewN | apply IsS108.drew | apply IsS108.set_0 | refine IsS108.far ?_ NB444_453.out _) | exact HI444.out))) : gb454 ≠ g444)); clear HI444; clear BK453; clear HB; have HI444 := n0_; have BK453 := n1_; have HB := n2_; have BK454 := n3_; have GW454 := n4_; have GE454 := n5_; have NB453_454 := n6_; have NB454_453 := n7_; have NB444_454 := n8_; have NB454_444 := n9_; clear n0_ n1_ n2_ n3_ n4_ n5_ n6_ n7_ n8_ n9_; clear hb hbox hg; have hnb14 := NB453_454.out; have hnc14 := NB454_453.out; have hnb15 := NB453_444.out; have hnc15 := NB444_453.out; have hcz16_0 : w13.cell? ⟨gb453, 0, none⟩ = some (.int .i64 0) := (blk_cell BK453.out 0).trans rfl; have hcz16_1 : w13.cell? ⟨gb453, 1, none⟩ = some (.int .i64 0) := (blk_cell BK453.out 1).trans rfl; have hfz16_0 := blk_frozen BK453.out 0; have hfz16_1 := blk_frozen BK453.out 1; have hnb17 := NB454_444.out; have hnc17 := NB444_454.out; have hcz18_0 : w13.cell? ⟨gb454, 0, none⟩ = some (.int .i64 0) := (blk_cell BK454.out 0).trans rfl; have hcz18_1 : w13.cell? ⟨gb454, 1, none⟩ = some (.int .i64 0) := (blk_cell BK454.out 1).trans rfl; have hfz18_0 := blk_frozen BK454.out 0; have hfz18_1 := blk_frozen BK454.out 1) | (go_at_call 26; (with_reducible refine (scale_Lasts.calls t445 t446 t448 t449 t451 t455 t456 _ A6.out).mono ?_); rintro e w19 ⟨rfl, hb⟩; have n0_ := Aside0.mk (IsS108.below (show IsS108 w ((((w13.setCell ⟨gb453, 0, none⟩ (.int .i64 t445)).setCell ⟨gb453, 1, none⟩ (.int .i64 t446)).setCell ⟨gb454, 0, none⟩ (.int .i64 t448)).setCell ⟨gb454, 1, none⟩ (.int .i64 t449)) g444 t452 from by repeat (first | (with_reducible first | exact HI444.out | apply IsS108.alloc | apply IsS108.drewN | apply IsS108.drew | apply IsS108.set_0 | refine IsS108.far ?_ NB444_453.out _ | refine IsS108.far ?_ NB444_454.out _) | exact HI444.out)) hb); have n1_ := Aside0.mk (blk_below (g := gb453) (o := .cells #[.int .i64 t445, .int .i64 t446] 50 (0, 0)) (by (with_reducible repeat (first | refine blk_drewN ?_ _ | refine blk_drew ?_ | refine blk_alloc ?_ _)); refine blk_far ?_ NB453_454.out _; (with_reducible repeat (first | refine blk_drewN ?_ _ | refine blk_drew ?_ | refine blk_alloc ?_ _)); refine blk_far ?_ NB453_454.out _; (with_reducible repeat (first | refine blk_drewN ?_ _ | refine blk_drew ?_ | refine blk_alloc ?_ _)); refine blk_put (cs := #[.int .i64 t445, .int .i64 0]) ?_ 1 _ rfl; (with_reducible repeat (first | refine blk_drewN ?_ _ | refine blk_drew ?_ | refine blk_alloc ?_ _)); refine blk_put (cs := #[.int .i64 0, .int .i64 0]) ?_ 0 _ rfl; (with_reducible repeat (first | refine blk_drewN ?_ _ | refine blk_drew ?_ | refine blk_alloc ?_ _)); exact BK453.out) hb); have n2_ := Aside0.mk (blk_below (g := gb454) (o := .cells #[.int .i64 t448, .int .i64 t449] 50 (0, 0)) (by (with_reducible repeat (first | refine blk_drewN ?_ _ | refine blk_drew ?_ | refine blk_alloc ?_ _)); refine blk_put (cs := #[.int .i64 t448, .int .i64 0]) ?_ 1 _ rfl; (with_reducible repeat (first | refine blk_drewN ?_ _ | refine blk_drew ?_ | refine blk_alloc ?_ _)); refine blk_put (cs := #[.int .i64 0, .int .i64 0]) ?_ 0 _ rfl; (with_reducible repeat (first | refine blk_drewN ?_ _ | refine blk_drew ?_ | refine blk_alloc ?_ _)); refine blk_far ?_ NB454_453.out _; (with_reducible repeat (first | refine blk_drewN ?_ _ | refine blk_drew ?_ | refine blk_alloc ?_ _)); refine blk_far ?_ NB454_453.out _; (with_reducible repeat (first | refine blk_drewN ?_ _ | refine blk_drew ?_ | refine blk_alloc ?_ _)); exact BK454.out) hb); have n3_ := Aside0.mk (below_step (by repeat (first | (with_reducible first | exact HB.out | apply below_alloc | apply pw_below_drewN | apply below_drew1 | refine below_set ?_ (IsS108.ge HI444.out) | refine below_set ?_ GE453.out | refine below_set ?_ GE454.out) | exact HB.out)) hb); clear HI444; clear BK453; clear BK454; clear HB; have HI444 := n0_; have BK453 := n1_; have BK454 := n2_; have HB := n3_; clear n0_ n1_ n2_ n3_; (try clear hb); (try clear hb2); (try clear hk); (try clear hi))))
  (try simp only [Act.put, List.setIfInBounds_toArray, List.set_cons_zero, List.set_cons_succ])
  go_cut [37] (fun v37 wc => ∃ (kq : Nat) (x37_6 : Bool), v37 = .bool x37_6 ∧ Aside0 (shambleslaw01_ScaleLasts.j0 kq t451 t455 x37_6 t452 t445 t446 t448 t449 = some r) ∧ Aside0 (kq ≤ k) ∧ Aside0 (wc.heap[gb453]? = some (.cells #[.int .i64 t445, .int .i64 t446] 50 (0, 0))) ∧ Aside0 (wc.heap[gb454]? = some (.cells #[.int .i64 t448, .int .i64 t449] 50 (0, 0))) ∧ Aside0 (IsS108 w wc g444 t452) ∧ Aside0 (Below w.heap.size w wc))
  case first =>
    have H := HC7.out
    clear HC7
    by_cases c20 : t456 = 0
    · rw [if_pos c20] at H
      have c20b0 : (t456 == 0) = true := beq_iff_eq.mpr c20
      have c20b1 : (t456 != 0) = false := bne_eq_false_iff_eq.mpr c20
      clear c20
      (first | rw [c20b0] | (simp only [i64_w, i32_w]; rw [c20b0]) | skip)
      by_cases c21 : t455 < (-1)
      · rw [if_pos c21] at H
        have c21b0 : decide (t455 < (-1)) = true := decide_eq_true c21
        clear c21
        have H' := Aside0.mk H
        clear H
        go_wp2
        repeat (go_quiet (fail); try go_wp2)
        go_meet
        case rel => exact ⟨_, (true), (by first | rfl | (simp; done) | (simp [*]; done)), H', ⟨by first | omega | exact Nat.le_refl _⟩, ⟨by (with_reducible repeat (first | refine blk_drewN ?_ _ | refine blk_drew ?_ | refine blk_alloc ?_ _)); exact BK453.out⟩, ⟨by (with_reducible repeat (first | refine blk_drewN ?_ _ | refine blk_drew ?_ | refine blk_alloc ?_ _)); exact BK454.out⟩, ⟨by repeat (first | (with_reducible first | exact HI444.out | apply IsS108.alloc | apply IsS108.drewN | apply IsS108.drew | apply IsS108.set_0 | refine IsS108.far ?_ NB444_453.out _ | refine IsS108.far ?_ NB444_454.out _) | exact HI444.out)⟩, ⟨by repeat (first | (with_reducible first | exact HB.out | apply below_alloc | apply pw_below_drewN | apply below_drew1 | refine below_set ?_ (IsS108.ge HI444.out) | refine below_set ?_ GE453.out | refine below_set ?_ GE454.out) | exact HB.out)⟩⟩
      · rw [if_neg c21] at H
        have c21b0 : decide (t455 < (-1)) = false := decide_eq_false c21
        clear c21
        have H' := Aside0.mk H
        clear H
        go_wp2
        repeat (go_quiet (fail); try go_wp2)
        go_meet
        case rel => exact ⟨_, (decide (t455 > 10)), (by first | rfl | (simp; done) | (simp [*]; done)), H', ⟨by first | omega | exact Nat.le_refl _⟩, ⟨by (with_reducible repeat (first | refine blk_drewN ?_ _ | refine blk_drew ?_ | refine blk_alloc ?_ _)); exact BK453.out⟩, ⟨by (with_reducible repeat (first | refine blk_drewN ?_ _ | refine blk_drew ?_ | refine blk_alloc ?_ _)); exact BK454.out⟩, ⟨by repeat (first | (with_reducible first | exact HI444.out | apply IsS108.alloc | apply IsS108.drewN | apply IsS108.drew | apply IsS108.set_0 | refine IsS108.far ?_ NB444_453.out _ | refine IsS108.far ?_ NB444_454.out _) | exact HI444.out)⟩, ⟨by repeat (first | (with_reducible first | exact HB.out | apply below_alloc | apply pw_below_drewN | apply below_drew1 | refine below_set ?_ (IsS108.ge HI444.out) | refine below_set ?_ GE453.out | refine below_set ?_ GE454.out) | exact HB.out)⟩⟩
    · rw [if_neg c20] at H
      have c20b0 : (t456 == 0) = false := beq_eq_false_iff_ne.mpr c20
      have c20b1 : (t456 != 0) = true := bne_iff_ne.mpr c20
      (first | rw [c20b0] | (simp only [i64_w, i32_w]; rw [c20b0]) | skip)
      have H' := Aside0.mk H
      clear H
      go_wp2
      repeat (go_quiet (fail); try go_wp2)
      go_meet
      case rel => exact ⟨_, (true), (by first | rfl | (simp; done) | (simp [*]; done)), H', ⟨by first | omega | exact Nat.le_refl _⟩, ⟨by (with_reducible repeat (first | refine blk_drewN ?_ _ | refine blk_drew ?_ | refine blk_alloc ?_ _)); exact BK453.out⟩, ⟨by (with_reducible repeat (first | refine blk_drewN ?_ _ | refine blk_drew ?_ | refine blk_alloc ?_ _)); exact BK454.out⟩, ⟨by repeat (first | (with_reducible first | exact HI444.out | apply IsS108.alloc | apply IsS108.drewN | apply IsS108.drew | apply IsS108.set_0 | refine IsS108.far ?_ NB444_453.out _ | refine IsS108.far ?_ NB444_454.out _) | exact HI444.out)⟩, ⟨by repeat (first | (with_reducible first | exact HB.out | apply below_alloc | apply pw_below_drewN | apply below_drew1 | refine below_set ?_ (IsS108.ge HI444.out) | refine below_set ?_ GE453.out | refine below_set ?_ GE454.out) | exact HB.out)⟩⟩
  case rest =>
    clear HC7
    try clear c1
    try clear c2
    try clear p2
    try clear c5
    try clear c14
    try clear c15
    try clear c17
    try clear c20
    try clear c20b0
    try clear c20b1
    try clear c21
    try clear c21b0
    try clear hcz16_0
    try clear hcz16_1
    try clear hcz18_0
    try clear hcz18_1
    try clear hfz16_0
    try clear hfz16_1
    try clear hfz18_0
    try clear hfz18_1
    obtain ⟨kq, x37_6, rfl, HA, HJ6, BK453, BK454, HI444, HB⟩ := hcut
    cases kq with
    | zero => exact absurd HA.out (by simp [shambleslaw01_ScaleLasts.j0])
    | succ kj6 =>
      have H := HA.out
      clear HA
      simp only [shambleslaw01_ScaleLasts.j0] at H
      by_cases c22 : x37_6 = true
      · subst c22
        have H1 : (some false) = some r := by rw [if_pos rfl] at H; exact H
        clear H
        have H := H1
        clear H1
        obtain rfl := Option.some.inj H
        go_wp2
        repeat (go_quiet (fail); try go_wp2)
        go_ret
        exact ⟨by first | rfl | (simp [errW_none, errW_some] <;> rfl) | (simp [*, errW_none, errW_some] <;> rfl), by repeat (first | (with_reducible first | exact HB.out | apply below_alloc | apply pw_below_drewN | apply below_drew1 | refine below_set ?_ (IsS108.ge HI444.out) | refine below_set ?_ GE453.out | refine below_set ?_ GE454.out) | exact HB.out)⟩
      · replace c22 := Bool.eq_false_iff.mpr c22
        subst c22
        have H1 : ((shambleskit_Die_True.f t452 t445 t446).bind fun bt457 => (shambleslaw01_ScaleLasts.l0 kj6 t451 t455 bt457.1 0 bt457.2 t445 t446 t448 t449)) = some r := by rw [if_neg (show ¬ (false = true) by decide)] at H; exact H
        clear H
        have H := H1
        clear H1
        replace H := Option.bind_eq_some_iff.mp H
        obtain ⟨⟨t457, t458⟩, A230, H⟩ := H
        replace H : (shambleslaw01_ScaleLasts.l0 kj6 t451 t455 t457 0 t458 t445 t446 t448 t449) = some r := H
        have A23 := Aside0.mk A230
        clear A230
        have H' := Aside0.mk H
        clear H
        have hnb24 := NB453_454.out
        have hnc24 := NB454_453.out
        have hnb25 := NB453_444.out
        have hnc25 := NB444_453.out
        have hcz26_0 : wc.cell? ⟨gb453, 0, none⟩ = some (.int .i64 t445) := (blk_cell BK453.out 0).trans rfl
        have hcz26_1 : wc.cell? ⟨gb453, 1, none⟩ = some (.int .i64 t446) := (blk_cell BK453.out 1).trans rfl
        have hfz26_0 := blk_frozen BK453.out 0
        have hfz26_1 := blk_frozen BK453.out 1
        go_wp2_with (first | (go_at_call 34; (with_reducible refine (shambleskit_Die_True.calls g444 t452 t445 t446 t457 t458 w _ ?side1 ?side2 A23.out).mono ?_); (case side1 => repeat (first | (with_reducible first | exact HI444.out | apply IsS108.alloc | apply IsS108.drewN | apply IsS108.drew | apply IsS108.set_0 | refine IsS108.far ?_ NB444_453.out _ | refine IsS108.far ?_ NB444_454.out _) | exact HI444.out)); (case side2 => repeat (first | (with_reducible first | exact HB.out | apply below_alloc | apply pw_below_drewN | apply below_drew1 | refine below_set ?_ (IsS108.ge HI444.out) | refine below_set ?_ GE453.out | refine below_set ?_ GE454.out) | exact HB.out)); rintro e w27 ⟨rfl, hi, hb, hk⟩; have n0_ := Aside0.mk (KeepBut.blk hk (g' := gb453) (o := .cells #[.int .i64 t445, .int .i64 t446] 50 (0, 0)) (by (with_reducible repeat (first | refine blk_drewN ?_ _ | refine blk_drew ?_ | refine blk_alloc ?_ _)); exact BK453.out) NB453_444.out (by simp)); have n1_ := Aside0.mk (KeepBut.blk hk (g' := gb454) (o := .cells #[.int .i64 t448, .int .i64 t449] 50 (0, 0)) (by (with_reducible repeat (first | refine blk_drewN ?_ _ | refine blk_drew ?_ | refine blk_alloc ?_ _)); exact BK454.out) NB454_444.out (by simp)); have n2_ := Aside0.mk (hb); have n3_ := Aside0.mk (hi); clear BK453; clear BK454; clear HB; clear HI444; have BK453 := n0_; have BK454 := n1_; have HB := n2_; have HI444 := n3_; clear n0_ n1_ n2_ n3_; (try clear hb); (try clear hb2); (try clear hk); (try clear hi)))
        repeat (go_quiet (first | (go_at_call 34; (with_reducible refine (shambleskit_Die_True.calls g444 t452 t445 t446 t457 t458 w _ ?side1 ?side2 A23.out).mono ?_); (case side1 => repeat (first | (with_reducible first | exact HI444.out | apply IsS108.alloc | apply IsS108.drewN | apply IsS108.drew | apply IsS108.set_0 | refine IsS108.far ?_ NB444_453.out _ | refine IsS108.far ?_ NB444_454.out _) | exact HI444.out)); (case side2 => repeat (first | (with_reducible first | exact HB.out | apply below_alloc | apply pw_below_drewN | apply below_drew1 | refine below_set ?_ (IsS108.ge HI444.out) | refine below_set ?_ GE453.out | refine below_set ?_ GE454.out) | exact HB.out)); rintro e w27 ⟨rfl, hi, hb, hk⟩; have n0_ := Aside0.mk (KeepBut.blk hk (g' := gb453) (o := .cells #[.int .i64 t445, .int .i64 t446] 50 (0, 0)) (by (with_reducible repeat (first | refine blk_drewN ?_ _ | refine blk_drew ?_ | refine blk_alloc ?_ _)); exact BK453.out) NB453_444.out (by simp)); have n1_ := Aside0.mk (KeepBut.blk hk (g' := gb454) (o := .cells #[.int .i64 t448, .int .i64 t449] 50 (0, 0)) (by (with_reducible repeat (first | refine blk_drewN ?_ _ | refine blk_drew ?_ | refine blk_alloc ?_ _)); exact BK454.out) NB454_444.out (by simp)); have n2_ := Aside0.mk (hb); have n3_ := Aside0.mk (hi); clear BK453; clear BK454; clear HB; clear HI444; have BK453 := n0_; have BK454 := n1_; have HB := n2_; have HI444 := n3_; clear n0_ n1_ n2_ n3_; (try clear hb); (try clear hb2); (try clear hk); (try clear hi))); try go_wp2_with (first | (go_at_call 34; (with_reducible refine (shambleskit_Die_True.calls g444 t452 t445 t446 t457 t458 w _ ?side1 ?side2 A23.out).mono ?_); (case side1 => repeat (first | (with_reducible first | exact HI444.out | apply IsS108.alloc | apply IsS108.drewN | apply IsS108.drew | apply IsS108.set_0 | refine IsS108.far ?_ NB444_453.out _ | refine IsS108.far ?_ NB444_454.out _) | exact HI444.out)); (case side2 => repeat (first | (with_reducible first | exact HB.out | apply below_alloc | apply pw_below_drewN | apply below_drew1 | refine below_set ?_ (IsS108.ge HI444.out) | refine below_set ?_ GE453.out | refine below_set ?_ GE454.out) | exact HB.out)); rintro e w27 ⟨rfl, hi, hb, hk⟩; have n0_ := Aside0.mk (KeepBut.blk hk (g' := gb453) (o := .cells #[.int .i64 t445, .int .i64 t446] 50 (0, 0)) (by (with_reducible repeat (first | refine blk_drewN ?_ _ | refine blk_drew ?_ | refine blk_alloc ?_ _)); exact BK453.out) NB453_444.out (by simp)); have n1_ := Aside0.mk (KeepBut.blk hk (g' := gb454) (o := .cells #[.int .i64 t448, .int .i64 t449] 50 (0, 0)) (by (with_reducible repeat (first | refine blk_drewN ?_ _ | refine blk_drew ?_ | refine blk_alloc ?_ _)); exact BK454.out) NB454_444.out (by simp)); have n2_ := Aside0.mk (hb); have n3_ := Aside0.mk (hi); clear BK453; clear BK454; clear HB; clear HI444; have BK453 := n0_; have BK454 := n1_; have HB := n2_; have HI444 := n3_; clear n0_ n1_ n2_ n3_; (try clear hb); (try clear hb2); (try clear hk); (try clear hi))))
        go_loopg [9, 10] kj6 (fun kq v9 v10 w' => ∃ (x9_2 : Int) (x10_2 : Int) (x445000_2 : Int), v9 = .int .i64 x9_2 ∧ v10 = .int .i64 x10_2 ∧ Aside0 (shambleslaw01_ScaleLasts.l0 kq t451 t455 x9_2 x10_2 x445000_2 t445 t446 t448 t449 = some r) ∧ Aside0 (kq ≤ kj6) ∧ Aside0 (w'.heap[gb453]? = some (.cells #[.int .i64 t445, .int .i64 t446] 50 (0, 0))) ∧ Aside0 (w'.heap[gb454]? = some (.cells #[.int .i64 t448, .int .i64 t449] 50 (0, 0))) ∧ Aside0 (IsS108 w w' g444 x445000_2) ∧ Aside0 (Below w.heap.size w w'))
        case atStart => exact ⟨(t457), (0), (t458), (by first | rfl | (simp; done) | (simp [*]; done)), (by first | rfl | (simp; done) | (simp [*]; done)), H', ⟨Nat.le_refl _⟩, ⟨by (with_reducible repeat (first | refine blk_drewN ?_ _ | refine blk_drew ?_ | refine blk_alloc ?_ _)); exact BK453.out⟩, ⟨by (with_reducible repeat (first | refine blk_drewN ?_ _ | refine blk_drew ?_ | refine blk_alloc ?_ _)); exact BK454.out⟩, ⟨by repeat (first | (with_reducible first | exact HI444.out | apply IsS108.alloc | apply IsS108.drewN | apply IsS108.drew | apply IsS108.set_0 | refine IsS108.far ?_ NB444_453.out _ | refine IsS108.far ?_ NB444_454.out _) | exact HI444.out)⟩, ⟨by repeat (first | (with_reducible first | exact HB.out | apply below_alloc | apply pw_below_drewN | apply below_drew1 | refine below_set ?_ (IsS108.ge HI444.out) | refine below_set ?_ GE453.out | refine below_set ?_ GE454.out) | exact HB.out)⟩⟩
        case round =>
          clear H'
          try clear c1
          try clear c2
          try clear p2
          try clear c5
          try clear c14
          try clear c15
          try clear c17
          try clear c20
          try clear c20b0
          try clear c20b1
          try clear c21
          try clear c21b0
          try clear c22
          try clear c24
          try clear c25
          try clear hcz16_0
          try clear hcz16_1
          try clear hcz18_0
          try clear hcz18_1
          try clear hcz26_0
          try clear hcz26_1
          try clear hfz16_0
          try clear hfz16_1
          try clear hfz18_0
          try clear hfz18_1
          try clear hfz26_0
          try clear hfz26_1
          try clear p2
          obtain ⟨x9_2, x10_2, x445000_2, rfl, rfl, HA, HK2, BK453, BK454, HI444, HB⟩ := hrel
          cases gk with
          | zero => exact absurd HA.out (by simp [shambleslaw01_ScaleLasts.l0])
          | succ k2 =>
            have H := HA.out
            clear HA
            simp only [shambleslaw01_ScaleLasts.l0] at H
            by_cases c28 : x10_2 ≤ t455
            · rw [if_pos c28] at H
              have c28b0 : decide (x10_2 ≤ t455) = true := decide_eq_true c28
              clear c28
              by_cases c29 : x9_2 < (wrap64 (-t451))
              · rw [if_pos c29] at H
                have c29b0 : decide (x9_2 < (wrap64 (-t451))) = true := decide_eq_true c29
                clear c29
                obtain rfl := Option.some.inj H
                go_wp2
                repeat (go_quiet (fail); try go_wp2)
                go_ret
                exact ⟨by first | rfl | (simp [errW_none, errW_some] <;> rfl) | (simp [*, errW_none, errW_some] <;> rfl), by repeat (first | (with_reducible first | exact HB.out | apply below_alloc | apply pw_below_drewN | apply below_drew1 | refine below_set ?_ (IsS108.ge HI444.out) | refine below_set ?_ GE453.out | refine below_set ?_ GE454.out) | exact HB.out)⟩
              · rw [if_neg c29] at H
                have c29b0 : decide (x9_2 < (wrap64 (-t451))) = false := decide_eq_false c29
                clear c29
                by_cases c30 : x9_2 > t451
                · rw [if_pos c30] at H
                  have c30b0 : decide (t451 < x9_2) = true := decide_eq_true c30
                  clear c30
                  obtain rfl := Option.some.inj H
                  go_wp2
                  repeat (go_quiet (fail); try go_wp2)
                  go_ret
                  exact ⟨by first | rfl | (simp [errW_none, errW_some] <;> rfl) | (simp [*, errW_none, errW_some] <;> rfl), by repeat (first | (with_reducible first | exact HB.out | apply below_alloc | apply pw_below_drewN | apply below_drew1 | refine below_set ?_ (IsS108.ge HI444.out) | refine below_set ?_ GE453.out | refine below_set ?_ GE454.out) | exact HB.out)⟩
                · rw [if_neg c30] at H
                  have c30b0 : decide (t451 < x9_2) = false := decide_eq_false c30
                  clear c30
                  replace H := Option.bind_eq_some_iff.mp H
                  obtain ⟨⟨t459, t460⟩, A310, H⟩ := H
                  replace H : (shambleslaw01_ScaleLasts.l0 k2 t451 t455 (wrap64 (x9_2 + t459)) (wrap64 (x10_2 + 1)) t460 t445 t446 t448 t449) = some r := H
                  have A31 := Aside0.mk A310
                  clear A310
                  have H' := Aside0.mk H
                  clear H
                  have hnb32 := NB454_453.out
                  have hnc32 := NB453_454.out
                  have hnb33 := NB454_444.out
                  have hnc33 := NB444_454.out
                  have hcz34_0 : wr.cell? ⟨gb454, 0, none⟩ = some (.int .i64 t448) := (blk_cell BK454.out 0).trans rfl
                  have hcz34_1 : wr.cell? ⟨gb454, 1, none⟩ = some (.int .i64 t449) := (blk_cell BK454.out 1).trans rfl
                  have hfz34_0 := blk_frozen BK454.out 0
                  have hfz34_1 := blk_frozen BK454.out 1
                  go_wp2_with (first | (go_at_call 34; (with_reducible refine (shambleskit_Die_True.calls g444 x445000_2 t448 t449 t459 t460 w _ ?side1 ?side2 A31.out).mono ?_); (case side1 => repeat (first | (with_reducible first | exact HI444.out | apply IsS108.alloc | apply IsS108.drewN | apply IsS108.drew | apply IsS108.set_0 | refine IsS108.far ?_ NB444_453.out _ | refine IsS108.far ?_ NB444_454.out _) | exact HI444.out)); (case side2 => repeat (first | (with_reducible first | exact HB.out | apply below_alloc | apply pw_below_drewN | apply below_drew1 | refine below_set ?_ (IsS108.ge HI444.out) | refine below_set ?_ GE453.out | refine below_set ?_ GE454.out) | exact HB.out)); rintro e w35 ⟨rfl, hi, hb, hk⟩; have n0_ := Aside0.mk (KeepBut.blk hk (g' := gb453) (o := .cells #[.int .i64 t445, .int .i64 t446] 50 (0, 0)) (by (with_reducible repeat (first | refine blk_drewN ?_ _ | refine blk_drew ?_ | refine blk_alloc ?_ _)); exact BK453.out) NB453_444.out (by simp)); have n1_ := Aside0.mk (KeepBut.blk hk (g' := gb454) (o := .cells #[.int .i64 t448, .int .i64 t449] 50 (0, 0)) (by (with_reducible repeat (first | refine blk_drewN ?_ _ | refine blk_drew ?_ | refine blk_alloc ?_ _)); exact BK454.out) NB454_444.out (by simp)); have n2_ := Aside0.mk (hb); have n3_ := Aside0.mk (hi); clear BK453; clear BK454; clear HB; clear HI444; have BK453 := n0_; have BK454 := n1_; have HB := n2_; have HI444 := n3_; clear n0_ n1_ n2_ n3_; (try clear hb); (try clear hb2); (try clear hk); (try clear hi)))
                  repeat (go_quiet (first | (go_at_call 34; (with_reducible refine (shambleskit_Die_True.calls g444 x445000_2 t448 t449 t459 t460 w _ ?side1 ?side2 A31.out).mono ?_); (case side1 => repeat (first | (with_reducible first | exact HI444.out | apply IsS108.alloc | apply IsS108.drewN | apply IsS108.drew | apply IsS108.set_0 | refine IsS108.far ?_ NB444_453.out _ | refine IsS108.far ?_ NB444_454.out _) | exact HI444.out)); (case side2 => repeat (first | (with_reducible first | exact HB.out | apply below_alloc | apply pw_below_drewN | apply below_drew1 | refine below_set ?_ (IsS108.ge HI444.out) | refine below_set ?_ GE453.out | refine below_set ?_ GE454.out) | exact HB.out)); rintro e w35 ⟨rfl, hi, hb, hk⟩; have n0_ := Aside0.mk (KeepBut.blk hk (g' := gb453) (o := .cells #[.int .i64 t445, .int .i64 t446] 50 (0, 0)) (by (with_reducible repeat (first | refine blk_drewN ?_ _ | refine blk_drew ?_ | refine blk_alloc ?_ _)); exact BK453.out) NB453_444.out (by simp)); have n1_ := Aside0.mk (KeepBut.blk hk (g' := gb454) (o := .cells #[.int .i64 t448, .int .i64 t449] 50 (0, 0)) (by (with_reducible repeat (first | refine blk_drewN ?_ _ | refine blk_drew ?_ | refine blk_alloc ?_ _)); exact BK454.out) NB454_444.out (by simp)); have n2_ := Aside0.mk (hb); have n3_ := Aside0.mk (hi); clear BK453; clear BK454; clear HB; clear HI444; have BK453 := n0_; have BK454 := n1_; have HB := n2_; have HI444 := n3_; clear n0_ n1_ n2_ n3_; (try clear hb); (try clear hb2); (try clear hk); (try clear hi))); try go_wp2_with (first | (go_at_call 34; (with_reducible refine (shambleskit_Die_True.calls g444 x445000_2 t448 t449 t459 t460 w _ ?side1 ?side2 A31.out).mono ?_); (case side1 => repeat (first | (with_reducible first | exact HI444.out | apply IsS108.alloc | apply IsS108.drewN | apply IsS108.drew | apply IsS108.set_0 | refine IsS108.far ?_ NB444_453.out _ | refine IsS108.far ?_ NB444_454.out _) | exact HI444.out)); (case side2 => repeat (first | (with_reducible first | exact HB.out | apply below_alloc | apply pw_below_drewN | apply below_drew1 | refine below_set ?_ (IsS108.ge HI444.out) | refine below_set ?_ GE453.out | refine below_set ?_ GE454.out) | exact HB.out)); rintro e w35 ⟨rfl, hi, hb, hk⟩; have n0_ := Aside0.mk (KeepBut.blk hk (g' := gb453) (o := .cells #[.int .i64 t445, .int .i64 t446] 50 (0, 0)) (by (with_reducible repeat (first | refine blk_drewN ?_ _ | refine blk_drew ?_ | refine blk_alloc ?_ _)); exact BK453.out) NB453_444.out (by simp)); have n1_ := Aside0.mk (KeepBut.blk hk (g' := gb454) (o := .cells #[.int .i64 t448, .int .i64 t449] 50 (0, 0)) (by (with_reducible repeat (first | refine blk_drewN ?_ _ | refine blk_drew ?_ | refine blk_alloc ?_ _)); exact BK454.out) NB454_444.out (by simp)); have n2_ := Aside0.mk (hb); have n3_ := Aside0.mk (hi); clear BK453; clear BK454; clear HB; clear HI444; have BK453 := n0_; have BK454 := n1_; have HB := n2_; have HI444 := n3_; clear n0_ n1_ n2_ n3_; (try clear hb); (try clear hb2); (try clear hk); (try clear hi))))
                  go_roundg k2
                  case measure => have := HJ6.out; have := HK2.out; omega
                  case rel => exact ⟨(wrap64 (x9_2 + t459)), (wrap64 (x10_2 + 1)), (t460), (by first | rfl | (simp; done) | (simp [*]; done)), (by first | rfl | (simp; done) | (simp [*]; done)), H', ⟨by have := HJ6.out; have := HK2.out; omega⟩, ⟨by (with_reducible repeat (first | refine blk_drewN ?_ _ | refine blk_drew ?_ | refine blk_alloc ?_ _)); exact BK453.out⟩, ⟨by (with_reducible repeat (first | refine blk_drewN ?_ _ | refine blk_drew ?_ | refine blk_alloc ?_ _)); exact BK454.out⟩, ⟨by repeat (first | (with_reducible first | exact HI444.out | apply IsS108.alloc | apply IsS108.drewN | apply IsS108.drew | apply IsS108.set_0 | refine IsS108.far ?_ NB444_453.out _ | refine IsS108.far ?_ NB444_454.out _) | exact HI444.out)⟩, ⟨by repeat (first | (with_reducible first | exact HB.out | apply below_alloc | apply pw_below_drewN | apply below_drew1 | refine below_set ?_ (IsS108.ge HI444.out) | refine below_set ?_ GE453.out | refine below_set ?_ GE454.out) | exact HB.out)⟩⟩
            · rw [if_neg c28] at H
              have c28b0 : decide (x10_2 ≤ t455) = false := decide_eq_false c28
              clear c28
              by_cases c36 : t455 < 10
              · rw [if_pos c36] at H
                have c36b0 : decide (t455 < 10) = true := decide_eq_true c36
                clear c36
                by_cases c37 : (wrap64 (t445 + (wrap64 ((wrap64 (t455 + 1)) * t448)))) < (wrap64 (-t451))
                · rw [if_pos c37] at H
                  have c37b0 : decide ((wrap64 (t445 + (wrap64 ((wrap64 (t455 + 1)) * t448)))) < (wrap64 (-t451))) = true := decide_eq_true c37
                  clear c37
                  replace H := Option.bind_eq_some_iff.mp H
                  obtain ⟨t461, A380, H⟩ := H
                  replace H : (some t461) = some r := H
                  have A38 := Aside0.mk A380
                  clear A380
                  obtain rfl := Option.some.inj H
                  have hnb39 := NB453_454.out
                  have hnc39 := NB454_453.out
                  have hnb40 := NB453_444.out
                  have hnc40 := NB444_453.out
                  have hcz41_0 : wr.cell? ⟨gb453, 0, none⟩ = some (.int .i64 t445) := (blk_cell BK453.out 0).trans rfl
                  have hcz41_1 : wr.cell? ⟨gb453, 1, none⟩ = some (.int .i64 t446) := (blk_cell BK453.out 1).trans rfl
                  have hfz41_0 := blk_frozen BK453.out 0
                  have hfz41_1 := blk_frozen BK453.out 1
                  have hnb42 := NB454_444.out
                  have hnc42 := NB444_454.out
                  have hcz43_0 : wr.cell? ⟨gb454, 0, none⟩ = some (.int .i64 t448) := (blk_cell BK454.out 0).trans rfl
                  have hcz43_1 : wr.cell? ⟨gb454, 1, none⟩ = some (.int .i64 t449) := (blk_cell BK454.out 1).trans rfl
                  have hfz43_0 := blk_frozen BK454.out 0
                  have hfz43_1 := blk_frozen BK454.out 1
                  go_wp2_with (first | (go_at_call 15; (with_reducible refine (shambleslaw01_awake.calls  t461 _ A38.out).mono ?_); rintro e w44 ⟨rfl, hb⟩; have n0_ := Aside0.mk (blk_below (g := gb453) (o := .cells #[.int .i64 t445, .int .i64 t446] 50 (0, 0)) (by (with_reducible repeat (first | refine blk_drewN ?_ _ | refine blk_drew ?_ | refine blk_alloc ?_ _)); exact BK453.out) hb); have n1_ := Aside0.mk (blk_below (g := gb454) (o := .cells #[.int .i64 t448, .int .i64 t449] 50 (0, 0)) (by (with_reducible repeat (first | refine blk_drewN ?_ _ | refine blk_drew ?_ | refine blk_alloc ?_ _)); exact BK454.out) hb); have n2_ := Aside0.mk (IsS108.below (by repeat (first | (with_reducible first | exact HI444.out | apply IsS108.alloc | apply IsS108.drewN | apply IsS108.drew | apply IsS108.set_0 | refine IsS108.far ?_ NB444_453.out _ | refine IsS108.far ?_ NB444_454.out _) | exact HI444.out)) hb); have n3_ := Aside0.mk (below_step (by repeat (first | (with_reducible first | exact HB.out | apply below_alloc | apply pw_below_drewN | apply below_drew1 | refine below_set ?_ (IsS108.ge HI444.out) | refine below_set ?_ GE453.out | refine below_set ?_ GE454.out) | exact HB.out)) hb); clear BK453; clear BK454; clear HI444; clear HB; have BK453 := n0_; have BK454 := n1_; have HI444 := n2_; have HB := n3_; clear n0_ n1_ n2_ n3_; (try clear hb); (try clear hb2); (try clear hk); (try clear hi)))
                  repeat (go_quiet (first | (go_at_call 15; (with_reducible refine (shambleslaw01_awake.calls  t461 _ A38.out).mono ?_); rintro e w44 ⟨rfl, hb⟩; have n0_ := Aside0.mk (blk_below (g := gb453) (o := .cells #[.int .i64 t445, .int .i64 t446] 50 (0, 0)) (by (with_reducible repeat (first | refine blk_drewN ?_ _ | refine blk_drew ?_ | refine blk_alloc ?_ _)); exact BK453.out) hb); have n1_ := Aside0.mk (blk_below (g := gb454) (o := .cells #[.int .i64 t448, .int .i64 t449] 50 (0, 0)) (by (with_reducible repeat (first | refine blk_drewN ?_ _ | refine blk_drew ?_ | refine blk_alloc ?_ _)); exact BK454.out) hb); have n2_ := Aside0.mk (IsS108.below (by repeat (first | (with_reducible first | exact HI444.out | apply IsS108.alloc | apply IsS108.drewN | apply IsS108.drew | apply IsS108.set_0 | refine IsS108.far ?_ NB444_453.out _ | refine IsS108.far ?_ NB444_454.out _) | exact HI444.out)) hb); have n3_ := Aside0.mk (below_step (by repeat (first | (with_reducible first | exact HB.out | apply below_alloc | apply pw_below_drewN | apply below_drew1 | refine below_set ?_ (IsS108.ge HI444.out) | refine below_set ?_ GE453.out | refine below_set ?_ GE454.out) | exact HB.out)) hb); clear BK453; clear BK454; clear HI444; clear HB; have BK453 := n0_; have BK454 := n1_; have HI444 := n2_; have HB := n3_; clear n0_ n1_ n2_ n3_; (try clear hb); (try clear hb2); (try clear hk); (try clear hi))); try go_wp2_with (first | (go_at_call 15; (with_reducible refine (shambleslaw01_awake.calls  t461 _ A38.out).mono ?_); rintro e w44 ⟨rfl, hb⟩; have n0_ := Aside0.mk (blk_below (g := gb453) (o := .cells #[.int .i64 t445, .int .i64 t446] 50 (0, 0)) (by (with_reducible repeat (first | refine blk_drewN ?_ _ | refine blk_drew ?_ | refine blk_alloc ?_ _)); exact BK453.out) hb); have n1_ := Aside0.mk (blk_below (g := gb454) (o := .cells #[.int .i64 t448, .int .i64 t449] 50 (0, 0)) (by (with_reducible repeat (first | refine blk_drewN ?_ _ | refine blk_drew ?_ | refine blk_alloc ?_ _)); exact BK454.out) hb); have n2_ := Aside0.mk (IsS108.below (by repeat (first | (with_reducible first | exact HI444.out | apply IsS108.alloc | apply IsS108.drewN | apply IsS108.drew | apply IsS108.set_0 | refine IsS108.far ?_ NB444_453.out _ | refine IsS108.far ?_ NB444_454.out _) | exact HI444.out)) hb); have n3_ := Aside0.mk (below_step (by repeat (first | (with_reducible first | exact HB.out | apply below_alloc | apply pw_below_drewN | apply below_drew1 | refine below_set ?_ (IsS108.ge HI444.out) | refine below_set ?_ GE453.out | refine below_set ?_ GE454.out) | exact HB.out)) hb); clear BK453; clear BK454; clear HI444; clear HB; have BK453 := n0_; have BK454 := n1_; have HI444 := n2_; have HB := n3_; clear n0_ n1_ n2_ n3_; (try clear hb); (try clear hb2); (try clear hk); (try clear hi))))
                  go_ret
                  exact ⟨by first | rfl | (simp [errW_none, errW_some] <;> rfl) | (simp [*, errW_none, errW_some] <;> rfl), by repeat (first | (with_reducible first | exact HB.out | apply below_alloc | apply pw_below_drewN | apply below_drew1 | refine below_set ?_ (IsS108.ge HI444.out) | refine below_set ?_ GE453.out | refine below_set ?_ GE454.out) | exact HB.out)⟩
                · rw [if_neg c37] at H
                  have c37b0 : decide ((wrap64 (t445 + (wrap64 ((wrap64 (t455 + 1)) * t448)))) < (wrap64 (-t451))) = false := decide_eq_false c37
                  clear c37
                  by_cases c45 : (wrap64 (t446 + (wrap64 ((wrap64 (t455 + 1)) * t449)))) > t451
                  · rw [if_pos c45] at H
                    have c45b0 : decide (t451 < (wrap64 (t446 + (wrap64 ((wrap64 (t455 + 1)) * t449))))) = true := decide_eq_true c45
                    clear c45
                    replace H := Option.bind_eq_some_iff.mp H
                    obtain ⟨t462, A460, H⟩ := H
                    replace H : (some t462) = some r := H
                    have A46 := Aside0.mk A460
                    clear A460
                    obtain rfl := Option.some.inj H
                    have hnb47 := NB453_454.out
                    have hnc47 := NB454_453.out
                    have hnb48 := NB453_444.out
                    have hnc48 := NB444_453.out
                    have hcz49_0 : wr.cell? ⟨gb453, 0, none⟩ = some (.int .i64 t445) := (blk_cell BK453.out 0).trans rfl
                    have hcz49_1 : wr.cell? ⟨gb453, 1, none⟩ = some (.int .i64 t446) := (blk_cell BK453.out 1).trans rfl
                    have hfz49_0 := blk_frozen BK453.out 0
                    have hfz49_1 := blk_frozen BK453.out 1
                    have hnb50 := NB454_444.out
                    have hnc50 := NB444_454.out
                    have hcz51_0 : wr.cell? ⟨gb454, 0, none⟩ = some (.int .i64 t448) := (blk_cell BK454.out 0).trans rfl
                    have hcz51_1 : wr.cell? ⟨gb454, 1, none⟩ = some (.int .i64 t449) := (blk_cell BK454.out 1).trans rfl
                    have hfz51_0 := blk_frozen BK454.out 0
                    have hfz51_1 := blk_frozen BK454.out 1
                    go_wp2_with (first | (go_at_call 15; (with_reducible refine (shambleslaw01_awake.calls  t462 _ A46.out).mono ?_); rintro e w52 ⟨rfl, hb⟩; have n0_ := Aside0.mk (blk_below (g := gb453) (o := .cells #[.int .i64 t445, .int .i64 t446] 50 (0, 0)) (by (with_reducible repeat (first | refine blk_drewN ?_ _ | refine blk_drew ?_ | refine blk_alloc ?_ _)); exact BK453.out) hb); have n1_ := Aside0.mk (blk_below (g := gb454) (o := .cells #[.int .i64 t448, .int .i64 t449] 50 (0, 0)) (by (with_reducible repeat (first | refine blk_drewN ?_ _ | refine blk_drew ?_ | refine blk_alloc ?_ _)); exact BK454.out) hb); have n2_ := Aside0.mk (IsS108.below (by repeat (first | (with_reducible first | exact HI444.out | apply IsS108.alloc | apply IsS108.drewN | apply IsS108.drew | apply IsS108.set_0 | refine IsS108.far ?_ NB444_453.out _ | refine IsS108.far ?_ NB444_454.out _) | exact HI444.out)) hb); have n3_ := Aside0.mk (below_step (by repeat (first | (with_reducible first | exact HB.out | apply below_alloc | apply pw_below_drewN | apply below_drew1 | refine below_set ?_ (IsS108.ge HI444.out) | refine below_set ?_ GE453.out | refine below_set ?_ GE454.out) | exact HB.out)) hb); clear BK453; clear BK454; clear HI444; clear HB; have BK453 := n0_; have BK454 := n1_; have HI444 := n2_; have HB := n3_; clear n0_ n1_ n2_ n3_; (try clear hb); (try clear hb2); (try clear hk); (try clear hi)))
                    repeat (go_quiet (first | (go_at_call 15; (with_reducible refine (shambleslaw01_awake.calls  t462 _ A46.out).mono ?_); rintro e w52 ⟨rfl, hb⟩; have n0_ := Aside0.mk (blk_below (g := gb453) (o := .cells #[.int .i64 t445, .int .i64 t446] 50 (0, 0)) (by (with_reducible repeat (first | refine blk_drewN ?_ _ | refine blk_drew ?_ | refine blk_alloc ?_ _)); exact BK453.out) hb); have n1_ := Aside0.mk (blk_below (g := gb454) (o := .cells #[.int .i64 t448, .int .i64 t449] 50 (0, 0)) (by (with_reducible repeat (first | refine blk_drewN ?_ _ | refine blk_drew ?_ | refine blk_alloc ?_ _)); exact BK454.out) hb); have n2_ := Aside0.mk (IsS108.below (by repeat (first | (with_reducible first | exact HI444.out | apply IsS108.alloc | apply IsS108.drewN | apply IsS108.drew | apply IsS108.set_0 | refine IsS108.far ?_ NB444_453.out _ | refine IsS108.far ?_ NB444_454.out _) | exact HI444.out)) hb); have n3_ := Aside0.mk (below_step (by repeat (first | (with_reducible first | exact HB.out | apply below_alloc | apply pw_below_drewN | apply below_drew1 | refine below_set ?_ (IsS108.ge HI444.out) | refine below_set ?_ GE453.out | refine below_set ?_ GE454.out) | exact HB.out)) hb); clear BK453; clear BK454; clear HI444; clear HB; have BK453 := n0_; have BK454 := n1_; have HI444 := n2_; have HB := n3_; clear n0_ n1_ n2_ n3_; (try clear hb); (try clear hb2); (try clear hk); (try clear hi))); try go_wp2_with (first | (go_at_call 15; (with_reducible refine (shambleslaw01_awake.calls  t462 _ A46.out).mono ?_); rintro e w52 ⟨rfl, hb⟩; have n0_ := Aside0.mk (blk_below (g := gb453) (o := .cells #[.int .i64 t445, .int .i64 t446] 50 (0, 0)) (by (with_reducible repeat (first | refine blk_drewN ?_ _ | refine blk_drew ?_ | refine blk_alloc ?_ _)); exact BK453.out) hb); have n1_ := Aside0.mk (blk_below (g := gb454) (o := .cells #[.int .i64 t448, .int .i64 t449] 50 (0, 0)) (by (with_reducible repeat (first | refine blk_drewN ?_ _ | refine blk_drew ?_ | refine blk_alloc ?_ _)); exact BK454.out) hb); have n2_ := Aside0.mk (IsS108.below (by repeat (first | (with_reducible first | exact HI444.out | apply IsS108.alloc | apply IsS108.drewN | apply IsS108.drew | apply IsS108.set_0 | refine IsS108.far ?_ NB444_453.out _ | refine IsS108.far ?_ NB444_454.out _) | exact HI444.out)) hb); have n3_ := Aside0.mk (below_step (by repeat (first | (with_reducible first | exact HB.out | apply below_alloc | apply pw_below_drewN | apply below_drew1 | refine below_set ?_ (IsS108.ge HI444.out) | refine below_set ?_ GE453.out | refine below_set ?_ GE454.out) | exact HB.out)) hb); clear BK453; clear BK454; clear HI444; clear HB; have BK453 := n0_; have BK454 := n1_; have HI444 := n2_; have HB := n3_; clear n0_ n1_ n2_ n3_; (try clear hb); (try clear hb2); (try clear hk); (try clear hi))))
                    go_ret
                    exact ⟨by first | rfl | (simp [errW_none, errW_some] <;> rfl) | (simp [*, errW_none, errW_some] <;> rfl), by repeat (first | (with_reducible first | exact HB.out | apply below_alloc | apply pw_below_drewN | apply below_drew1 | refine below_set ?_ (IsS108.ge HI444.out) | refine below_set ?_ GE453.out | refine below_set ?_ GE454.out) | exact HB.out)⟩
                  · rw [if_neg c45] at H
                    have c45b0 : decide (t451 < (wrap64 (t446 + (wrap64 ((wrap64 (t455 + 1)) * t449))))) = false := decide_eq_false c45
                    clear c45
                    obtain rfl := Option.some.inj H
                    have hnb53 := NB453_454.out
                    have hnc53 := NB454_453.out
                    have hnb54 := NB453_444.out
                    have hnc54 := NB444_453.out
                    have hcz55_0 : wr.cell? ⟨gb453, 0, none⟩ = some (.int .i64 t445) := (blk_cell BK453.out 0).trans rfl
                    have hcz55_1 : wr.cell? ⟨gb453, 1, none⟩ = some (.int .i64 t446) := (blk_cell BK453.out 1).trans rfl
                    have hfz55_0 := blk_frozen BK453.out 0
                    have hfz55_1 := blk_frozen BK453.out 1
                    have hnb56 := NB454_444.out
                    have hnc56 := NB444_454.out
                    have hcz57_0 : wr.cell? ⟨gb454, 0, none⟩ = some (.int .i64 t448) := (blk_cell BK454.out 0).trans rfl
                    have hcz57_1 : wr.cell? ⟨gb454, 1, none⟩ = some (.int .i64 t449) := (blk_cell BK454.out 1).trans rfl
                    have hfz57_0 := blk_frozen BK454.out 0
                    have hfz57_1 := blk_frozen BK454.out 1
                    go_wp2
                    repeat (go_quiet (fail); try go_wp2)
                    go_ret
                    exact ⟨by first | rfl | (simp [errW_none, errW_some] <;> rfl) | (simp [*, errW_none, errW_some] <;> rfl), by repeat (first | (with_reducible first | exact HB.out | apply below_alloc | apply pw_below_drewN | apply below_drew1 | refine below_set ?_ (IsS108.ge HI444.out) | refine below_set ?_ GE453.out | refine below_set ?_ GE454.out) | exact HB.out)⟩
              · rw [if_neg c36] at H
                have c36b0 : decide (t455 < 10) = false := decide_eq_false c36
                clear c36
                replace H := Option.bind_eq_some_iff.mp H
                obtain ⟨t463, A580, H⟩ := H
                replace H : (some t463) = some r := H
                have A58 := Aside0.mk A580
                clear A580
                obtain rfl := Option.some.inj H
                go_wp2_with (first | (go_at_call 15; (with_reducible refine (shambleslaw01_awake.calls  t463 _ A58.out).mono ?_); rintro e w59 ⟨rfl, hb⟩; have n0_ := Aside0.mk (blk_below (g := gb453) (o := .cells #[.int .i64 t445, .int .i64 t446] 50 (0, 0)) (by (with_reducible repeat (first | refine blk_drewN ?_ _ | refine blk_drew ?_ | refine blk_alloc ?_ _)); exact BK453.out) hb); have n1_ := Aside0.mk (blk_below (g := gb454) (o := .cells #[.int .i64 t448, .int .i64 t449] 50 (0, 0)) (by (with_reducible repeat (first | refine blk_drewN ?_ _ | refine blk_drew ?_ | refine blk_alloc ?_ _)); exact BK454.out) hb); have n2_ := Aside0.mk (IsS108.below (by repeat (first | (with_reducible first | exact HI444.out | apply IsS108.alloc | apply IsS108.drewN | apply IsS108.drew | apply IsS108.set_0 | refine IsS108.far ?_ NB444_453.out _ | refine IsS108.far ?_ NB444_454.out _) | exact HI444.out)) hb); have n3_ := Aside0.mk (below_step (by repeat (first | (with_reducible first | exact HB.out | apply below_alloc | apply pw_below_drewN | apply below_drew1 | refine below_set ?_ (IsS108.ge HI444.out) | refine below_set ?_ GE453.out | refine below_set ?_ GE454.out) | exact HB.out)) hb); clear BK453; clear BK454; clear HI444; clear HB; have BK453 := n0_; have BK454 := n1_; have HI444 := n2_; have HB := n3_; clear n0_ n1_ n2_ n3_; (try clear hb); (try clear hb2); (try clear hk); (try clear hi)))
                repeat (go_quiet (first | (go_at_call 15; (with_reducible refine (shambleslaw01_awake.calls  t463 _ A58.out).mono ?_); rintro e w59 ⟨rfl, hb⟩; have n0_ := Aside0.mk (blk_below (g := gb453) (o := .cells #[.int .i64 t445, .int .i64 t446] 50 (0, 0)) (by (with_reducible repeat (first | refine blk_drewN ?_ _ | refine blk_drew ?_ | refine blk_alloc ?_ _)); exact BK453.out) hb); have n1_ := Aside0.mk (blk_below (g := gb454) (o := .cells #[.int .i64 t448, .int .i64 t449] 50 (0, 0)) (by (with_reducible repeat (first | refine blk_drewN ?_ _ | refine blk_drew ?_ | refine blk_alloc ?_ _)); exact BK454.out) hb); have n2_ := Aside0.mk (IsS108.below (by repeat (first | (with_reducible first | exact HI444.out | apply IsS108.alloc | apply IsS108.drewN | apply IsS108.drew | apply IsS108.set_0 | refine IsS108.far ?_ NB444_453.out _ | refine IsS108.far ?_ NB444_454.out _) | exact HI444.out)) hb); have n3_ := Aside0.mk (below_step (by repeat (first | (with_reducible first | exact HB.out | apply below_alloc | apply pw_below_drewN | apply below_drew1 | refine below_set ?_ (IsS108.ge HI444.out) | refine below_set ?_ GE453.out | refine below_set ?_ GE454.out) | exact HB.out)) hb); clear BK453; clear BK454; clear HI444; clear HB; have BK453 := n0_; have BK454 := n1_; have HI444 := n2_; have HB := n3_; clear n0_ n1_ n2_ n3_; (try clear hb); (try clear hb2); (try clear hk); (try clear hi))); try go_wp2_with (first | (go_at_call 15; (with_reducible refine (shambleslaw01_awake.calls  t463 _ A58.out).mono ?_); rintro e w59 ⟨rfl, hb⟩; have n0_ := Aside0.mk (blk_below (g := gb453) (o := .cells #[.int .i64 t445, .int .i64 t446] 50 (0, 0)) (by (with_reducible repeat (first | refine blk_drewN ?_ _ | refine blk_drew ?_ | refine blk_alloc ?_ _)); exact BK453.out) hb); have n1_ := Aside0.mk (blk_below (g := gb454) (o := .cells #[.int .i64 t448, .int .i64 t449] 50 (0, 0)) (by (with_reducible repeat (first | refine blk_drewN ?_ _ | refine blk_drew ?_ | refine blk_alloc ?_ _)); exact BK454.out) hb); have n2_ := Aside0.mk (IsS108.below (by repeat (first | (with_reducible first | exact HI444.out | apply IsS108.alloc | apply IsS108.drewN | apply IsS108.drew | apply IsS108.set_0 | refine IsS108.far ?_ NB444_453.out _ | refine IsS108.far ?_ NB444_454.out _) | exact HI444.out)) hb); have n3_ := Aside0.mk (below_step (by repeat (first | (with_reducible first | exact HB.out | apply below_alloc | apply pw_below_drewN | apply below_drew1 | refine below_set ?_ (IsS108.ge HI444.out) | refine below_set ?_ GE453.out | refine below_set ?_ GE454.out) | exact HB.out)) hb); clear BK453; clear BK454; clear HI444; clear HB; have BK453 := n0_; have BK454 := n1_; have HI444 := n2_; have HB := n3_; clear n0_ n1_ n2_ n3_; (try clear hb); (try clear hb2); (try clear hk); (try clear hi))))
                go_ret
                exact ⟨by first | rfl | (simp [errW_none, errW_some] <;> rfl) | (simp [*, errW_none, errW_some] <;> rfl), by repeat (first | (with_reducible first | exact HB.out | apply below_alloc | apply pw_below_drewN | apply below_drew1 | refine below_set ?_ (IsS108.ge HI444.out) | refine below_set ?_ GE453.out | refine below_set ?_ GE454.out) | exact HB.out)⟩
def shambleslaw01_ScaleLasts.Pure : Prop := ∀ (l0 : List Int), l0.length ≤ maxLen → l0.length * 8 ≤ 140737488351232 → (∀ x ∈ l0, (Lit.int .i64 x).wf = true) → ∃ k, shambleslaw01_ScaleLasts.f k l0 = some true
theorem shambleslaw01_ScaleLasts.walk (P : shambleslaw01_ScaleLasts.Pure) (a0 : Option Addr) (len0 cap0 : Nat) (z0 : List Int) (w : World) (w0 : (a0 = none ∧ len0 = 0 ∧ cap0 = 0 ∧ z0 = []) ∨ ∃ x, a0 = some x ∧ len0 ≤ cap0 ∧ cap0 ≤ maxLen ∧ z0.length = cap0 ∧ (∀ i, i < z0.length → w.cell? (x.add i) = some (.int .i64 (z0.getD i 0))) ∧ ∀ n ∈ z0, (Lit.int .i64 n).wf = true) (y0 : len0 * 8 ≤ 140737488351232) :
    Calls Try.prog 5 #[.slice a0 len0 cap0] w fun e w' => e = .returned (.bool true) ∧ Below w.heap.size w w' := by
  obtain ⟨l0, rfl, hr0, hm0, hw0, hc0⟩ := ReadsInt.ofRowC w0
  obtain ⟨k, h⟩ := P l0 hm0 y0 hw0
  refine (shambleslaw01_ScaleLasts.calls k _ _ l0 true w (Kd.C_of_reads (d := (0 : Int)) (h1 := fun _ => rfl) hr0) hc0 h).mono ?_
  rintro e w' ⟨rfl, hd⟩
  exact ⟨rfl, hd⟩
end Go.Proofs.Ytebfnjabgkhngaa.Q
end
section
set_option linter.all false
set_option linter.unusedVariables false
set_option linter.unusedSimpArgs false
set_option linter.constructorNameAsVariable false
set_option linter.unusedVariables false
namespace Go.Proofs.Ytebfnjabgkhngaa
open Go.RowKit
open Go.Proofs.YtebfnjabgkhngaaW.PrintWords (mn)
open Go.Proofs.YtebfnjabgkhngaaW.PrintWords (rd)
theorem wrapU_nonneg (n : Int) : 0 ≤ IntKind.u64.wrap n := by
  simp [IntKind.wrap, IntKind.bits, IntKind.signed]
  exact Int.emod_nonneg _ (by decide)
theorem wrapU_in {n : Int} (h0 : 0 ≤ n) (h1 : n < 18446744073709551616) : IntKind.u64.wrap n = n := by
  simp [IntKind.wrap, IntKind.bits, IntKind.signed]
  exact Int.emod_eq_of_lt h0 h1
theorem w64_in {n : Int} (h0 : -9223372036854775808 ≤ n) (h1 : n ≤ 9223372036854775807) : wrap64 n = n := by unfold wrap64; omega
theorem roll_nonneg (s : Int) : ∃ r s', Q.shambleskit_Die_roll.f s = some (r, s') ∧ 0 ≤ r := ⟨_, _, rfl, wrapU_nonneg _⟩
theorem cast_spec (s n : Int) (h : 1 ≤ n) (h1 : n ≤ 4611686018427387904) : ∃ v s', Q.shambleskit_Die_Cast.f s n = some (v, s') ∧ 0 ≤ v ∧ v < n := by
  unfold Q.shambleskit_Die_Cast.f
  by_cases h2 : n < 2
  · exact ⟨0, s, by rw [if_pos h2], by omega, by omega⟩
  · obtain ⟨r, s', hr, h0⟩ := roll_nonneg s
    have hw : IntKind.u64.wrap n = n := wrapU_in (by omega) (by omega)
    have hd : 0 ≤ r / 4 := Int.ediv_nonneg h0 (by decide)
    have hm : Int.tmod (r / 4) n = (r / 4) % n := Int.tmod_eq_emod_of_nonneg hd
    have hb0 : 0 ≤ (r / 4) % n := Int.emod_nonneg _ (by omega)
    have hb1 : (r / 4) % n < n := Int.emod_lt_of_pos _ (by omega)
    refine ⟨(r / 4) % n, s', ?_, hb0, hb1⟩
    rw [if_neg h2, hr, Option.bind_some, hw, if_neg (by omega), hm, w64_in (by omega) (by omega)]
theorem from_spec (s a b : Int) (h : a ≤ b) (ha : -1152921504606846976 ≤ a) (hb : b ≤ 1152921504606846976) : ∃ v s', Q.shambleskit_Die_From.f s a b = some (v, s') ∧ a ≤ v ∧ v ≤ b := by
  unfold Q.shambleskit_Die_From.f
  rw [w64_in (n := b - a) (by omega) (by omega), w64_in (n := b - a + 1) (by omega) (by omega)]
  obtain ⟨v, s', hv, h0, h1⟩ := cast_spec s (b - a + 1) (by omega) (by omega)
  refine ⟨a + v, s', ?_, by omega, by omega⟩
  rw [hv, Option.bind_some, w64_in (by omega) (by omega)]
theorem one_spec (s : Int) (l : List Int) (h : l ≠ []) (hl : l.length ≤ 4611686018427387904) : ∃ v s', Q.shambleskit_Die_One.f s l = some (v, s') ∧ v ∈ l := by
  unfold Q.shambleskit_Die_One.f
  have hp : 0 < l.length := List.length_pos_iff.2 h
  obtain ⟨i, s', hv, h0, h1⟩ := cast_spec s l.length (by omega) (by omega)
  have hi : i.toNat < l.length := by omega
  refine ⟨l[i.toNat], s', ?_, List.getElem_mem hi⟩
  rw [if_neg (by omega), hv, Option.bind_some, if_pos h0, if_pos h1]
  unfold rd
  rw [List.getD_eq_getElem?_getD, List.getElem?_eq_getElem hi, Option.getD_some]
theorem span_spec (s a b : Int) (h : a ≤ b) (ha : -1152921504606846976 ≤ a) (hb : b ≤ 1152921504606846976) : ∃ lo hi s', Q.shambleskit_Die_Span.f s a b = some (lo, hi, s') ∧ a ≤ lo ∧ lo ≤ hi ∧ hi ≤ b := by
  unfold Q.shambleskit_Die_Span.f
  obtain ⟨lo, s1, h1, h2, h3⟩ := from_spec s a b h ha hb
  rw [h1, Option.bind_some, w64_in (n := lo + 4) (by omega) (by omega)]
  obtain ⟨m, s2, h4, h5⟩ := one_spec s1 [lo, mn b (lo + 4), b] (by simp) (by simp)
  have hm : lo ≤ m ∧ m ≤ b := by
    simp only [List.mem_cons, List.not_mem_nil, or_false] at h5
    unfold mn at h5
    split at h5 <;> omega
  obtain ⟨hi, s3, h6, h7, h8⟩ := from_spec s2 lo m hm.1 (by omega) (by omega)
  refine ⟨lo, hi, s3, ?_, h2, h7, by omega⟩
  rw [h4, Option.bind_some, h6, Option.bind_some]
theorem true_spec (s a b : Int) (h : a ≤ b) (ha : -1152921504606846976 ≤ a) (hb : b ≤ 1152921504606846976) : ∃ v s', Q.shambleskit_Die_True.f s a b = some (v, s') ∧ a ≤ v ∧ v ≤ b := by
  unfold Q.shambleskit_Die_True.f
  obtain ⟨x, s1, h1, h2, h3⟩ := from_spec s a b h ha hb
  obtain ⟨y, s2, h4, h5, h6⟩ := from_spec s1 a b h ha hb
  obtain ⟨v, s3, h7, h8⟩ := one_spec s2 [a, b, x, y] (by simp) (by simp)
  refine ⟨v, s3, ?_, ?_⟩
  · rw [h1, Option.bind_some, h4, Option.bind_some, h7, Option.bind_some]
  · simp only [List.mem_cons, List.not_mem_nil, or_false] at h8
    omega
end Go.Proofs.Ytebfnjabgkhngaa
end
section
set_option linter.all false
set_option linter.unusedVariables false
set_option linter.unusedSimpArgs false
set_option linter.constructorNameAsVariable false
set_option linter.unusedVariables false
namespace Go.Proofs.Ytebfnjabgkhngaa
open Go.RowKit
theorem lastsGo_spec (dlo dhi lim : Int) : ∀ (r : Nat) (lo hi n : Int), n + r = 10 →
    n ≤ lastsGo dlo dhi lim r lo hi n ∧ lastsGo dlo dhi lim r lo hi n ≤ 10 ∧
    (∀ d : Nat, n + 1 + d ≤ lastsGo dlo dhi lim r lo hi n → -lim ≤ lo + d * dlo ∧ hi + d * dhi ≤ lim) ∧
    (lastsGo dlo dhi lim r lo hi n < 10 → ∃ d : Nat, n + d = lastsGo dlo dhi lim r lo hi n ∧ ¬ (-lim ≤ lo + d * dlo ∧ hi + d * dhi ≤ lim))
  | 0, lo, hi, n, hn => by
    unfold lastsGo
    refine ⟨by omega, by omega, fun d hd => by omega, fun h => by omega⟩
  | r + 1, lo, hi, n, hn => by
    unfold lastsGo
    split
    · rename_i hok
      obtain ⟨h1, h2, h3, h4⟩ := lastsGo_spec dlo dhi lim r (lo + dlo) (hi + dhi) (n + 1) (by omega)
      refine ⟨by omega, h2, fun d hd => ?_, fun h => ?_⟩
      · cases d with
        | zero => simpa using hok
        | succ d =>
          have := h3 d (by omega)
          rw [show ((d + 1 : Nat) : Int) = d + 1 by omega, Int.add_mul, Int.add_mul, Int.one_mul, Int.one_mul]
          omega
      · obtain ⟨d, h5, h6⟩ := h4 h
        refine ⟨d + 1, by omega, ?_⟩
        rw [show ((d + 1 : Nat) : Int) = d + 1 by omega, Int.add_mul, Int.add_mul, Int.one_mul, Int.one_mul]
        intro h7
        exact h6 ⟨by omega, by omega⟩
    · rename_i hok
      exact ⟨by omega, by omega, fun d hd => by omega, fun h => ⟨0, by omega, by simpa using hok⟩⟩
theorem lasts_loop (lim m lo hi dlo dhi : Int) (hlim : 0 ≤ lim ∧ lim ≤ 29) (hlo : -9 ≤ lo ∧ lo ≤ hi ∧ hi ≤ 9) (hd : -3 ≤ dlo ∧ dlo ≤ dhi ∧ dhi ≤ 3) (hm : -1 ≤ m ∧ m ≤ 10)
    (hin : ∀ d : Nat, (d : Int) ≤ m → -lim ≤ lo + d * dlo ∧ hi + d * dhi ≤ lim) (hout : m < 10 → ∃ d : Nat, -1 + d = m ∧ ¬ (-lim ≤ lo + d * dlo ∧ hi + d * dhi ≤ lim)) :
    ∀ (r d : Nat) (x s : Int), (d : Int) + r = m + 1 → (lo + d * dlo ≤ x ∧ x ≤ hi + d * dhi) → (-100 ≤ x ∧ x ≤ 100) → Q.shambleslaw01_ScaleLasts.l0 (r + 1) lim m x d s lo hi dlo dhi = some true
  | 0, d, x, s, hr, hx, hb => by
    unfold Q.shambleslaw01_ScaleLasts.l0
    rw [if_neg (by omega)]
    by_cases h10 : m < 10
    · rw [if_pos h10]
      obtain ⟨d', h1, h2⟩ := hout h10
      have hmul : ∀ y : Int, -3 ≤ y → y ≤ 3 → -100 ≤ (m + 1) * y ∧ (m + 1) * y ≤ 100 := fun y h3 h4 => by
        have h5 : -((m + 1) * 3) ≤ (m + 1) * y := by
          rw [← Int.mul_neg]; exact Int.mul_le_mul_of_nonneg_left (by omega) (by omega)
        have h6 : (m + 1) * y ≤ (m + 1) * 3 := Int.mul_le_mul_of_nonneg_left h4 (by omega)
        omega
      have hl := hmul dlo (by omega) (by omega)
      have hh := hmul dhi (by omega) (by omega)
      rw [w64_in (n := m + 1) (by omega) (by omega), w64_in (n := (m + 1) * dlo) (by omega) (by omega), w64_in (n := lo + (m + 1) * dlo) (by omega) (by omega), w64_in (n := -lim) (by omega) (by omega),
        w64_in (n := (m + 1) * dhi) (by omega) (by omega), w64_in (n := hi + (m + 1) * dhi) (by omega) (by omega)]
      rw [show (d' : Int) = m + 1 by omega] at h2
      split
      · rfl
      · split
        · rfl
        · exact absurd ⟨by omega, by omega⟩ h2
    · rw [if_neg h10]; rfl
  | r + 1, d, x, s, hr, hx, hb => by
    unfold Q.shambleslaw01_ScaleLasts.l0
    have hd2 := hin d (by omega)
    rw [if_pos (by omega), w64_in (n := -lim) (by omega) (by omega), if_neg (by omega), if_neg (by omega)]
    obtain ⟨v, s', hv, h1, h2⟩ := true_spec s dlo dhi hd.2.1 (by omega) (by omega)
    rw [hv, Option.bind_some, w64_in (n := x + v) (by omega) (by omega), w64_in (n := (d : Int) + 1) (by omega) (by omega)]
    have hnext : (lo + ((d + 1 : Nat) : Int) * dlo ≤ x + v ∧ x + v ≤ hi + ((d + 1 : Nat) : Int) * dhi) := by
      rw [show ((d + 1 : Nat) : Int) = d + 1 by omega, Int.add_mul, Int.add_mul, Int.one_mul, Int.one_mul]
      omega
    exact lasts_loop lim m lo hi dlo dhi hlim hlo hd hm hin hout r (d + 1) (x + v) s' (by omega) hnext (by omega)
theorem pure_ScaleLasts : Q.shambleslaw01_ScaleLasts.Pure := by
  intro l _ hl _
  refine ⟨20, ?_⟩
  unfold Q.shambleslaw01_ScaleLasts.f Q.shambleskit_DieOf.f
  rw [if_pos (by omega), Option.bind_some]
  obtain ⟨lo, hi, s1, h1, h2, h3, h4⟩ := span_spec (dieOf l) (-9) 9 (by decide) (by decide) (by decide)
  rw [h1, Option.bind_some]
  obtain ⟨dlo, dhi, s2, h5, h6, h7, h8⟩ := span_spec s1 (-3) 3 (by decide) (by decide) (by decide)
  rw [h5, Option.bind_some]
  obtain ⟨lim, s3, h9, h10, h11⟩ := cast_spec s2 30 (by decide) (by decide)
  rw [h9, Option.bind_some]
  have he : lastsErr lo hi dlo dhi lim = 0 := by
    unfold lastsErr spanErr
    repeat' split
    all_goals omega
  have hdy : lastsDays lo hi dlo dhi lim = lastsGo dlo dhi lim 11 lo hi (-1) := by unfold lastsDays; rw [if_pos he]
  obtain ⟨g1, g2, g3, g4⟩ := lastsGo_spec dlo dhi lim 11 lo hi (-1) (by decide)
  unfold Q.scale_Lasts.f
  rw [Option.bind_some]
  dsimp only
  rw [he, hdy, if_pos rfl, if_neg (by omega)]
  generalize lastsGo dlo dhi lim 11 lo hi (-1) = m at *
  unfold Q.shambleslaw01_ScaleLasts.j0
  show (if decide (m > 10) = true then some false else ((Q.shambleskit_Die_True.f s3 lo hi).bind fun bt457 => Q.shambleslaw01_ScaleLasts.l0 19 lim m bt457.1 0 bt457.2 lo hi dlo dhi)) = some true
  rw [if_neg (by simp; omega)]
  obtain ⟨v, s4, h12, h13, h14⟩ := true_spec s3 lo hi h3 (by omega) (by omega)
  rw [h12, Option.bind_some]
  have hmain := lasts_loop lim m lo hi dlo dhi ⟨h10, by omega⟩ ⟨h2, h3, h4⟩ ⟨h6, h7, h8⟩ ⟨g1, g2⟩ (fun d hd => g3 d (by omega)) g4
  have h := hmain (m + 1).toNat 0 v s4 (by omega) (by simp; omega) (by omega)
  have hmono : ∀ (j : Nat) (k : Nat), Q.shambleslaw01_ScaleLasts.l0 k lim m v 0 s4 lo hi dlo dhi = some true → Q.shambleslaw01_ScaleLasts.l0 (k + j) lim m v 0 s4 lo hi dlo dhi = some true := fun j k hk => by
    induction j with
    | zero => exact hk
    | succ j ih => exact (Q.shambleslaw01_ScaleLasts.mono_l (k + j)).2 _ _ _ _ _ _ _ _ _ _ ih
  have h19 := hmono (19 - ((m + 1).toNat + 1)) _ h
  rw [show (m + 1).toNat + 1 + (19 - ((m + 1).toNat + 1)) = 19 by omega] at h19
  exact h19
end Go.Proofs.Ytebfnjabgkhngaa
end
section
set_option linter.all false
set_option linter.unusedVariables false
set_option linter.unusedSimpArgs false
set_option linter.constructorNameAsVariable false
namespace Go.Proofs.Ytebfnjabgkhngaa.Pure
open Go.RowKit Go.Proofs.Ytebfnjabgkhngaa.Q
theorem ScaleLasts : shambleslaw01_ScaleLasts.Pure := Go.Proofs.Ytebfnjabgkhngaa.pure_ScaleLasts
end Go.Proofs.Ytebfnjabgkhngaa.Pure
end
section
set_option linter.all false
set_option linter.unusedVariables false
set_option linter.unusedSimpArgs false
set_option linter.constructorNameAsVariable false
namespace Go.Proofs.YtebfnjabgkhngaaW.PrintWords
open Go.ChangeShapes Go.WideShapes
theorem sized_ints {H : Type} {enc : TypeId × Value → H} {P : Program} {W : World} {base : Nat} {spare : Nat → Bool} {held : Bool} {t e : TypeId} {k : IntKind} {a : Option Addr} {len cap : Nat} {d : DataW H} {ps : List MemPlace} {ts : List TypeId} {ds : List (DataW H)} {j : Nat}
    (hsz : (DataW.weightsEach P ts ds).all (· ≤ reachBytes) = true) (ht : ts[j]? = some t) (hd : ds[j]? = some d) (hu : P.underlying t = some (.slice e)) (he : P.underlying e = some (.int k)) (hc : P.cellsOf e = 1) {B : Nat} (hB : P.bytesOf e = B)
    (h : DataW.Trod enc P W base spare held t (.slice a len cap) d ps) : len * B ≤ 140737488351232 := by
  obtain ⟨fuel, hf⟩ := h
  rcases open_ints hu he hc hf with ⟨hcs, _⟩ | ⟨x, l, c, zs, hcs, _, hl, _, hz, hx, _, _⟩
  · simp [Value.cells] at hcs
    obtain ⟨rfl, rfl, rfl⟩ := hcs
    simp
  · simp [Value.cells] at hcs
    obtain ⟨rfl, rfl, rfl⟩ := hcs
    obtain ⟨hx, _⟩ := Prod.mk.inj hx
    subst hx
    have z := sized_slice hsz ht hd hu
    rw [hB] at z
    have hl2 : len ≤ zs.length := by
      rw [hz]
      split
      · exact hl
      · exact Nat.le_refl _
    have h1 : (lits (H := H) k (zs.take len)).length + (lits (H := H) k (zs.drop len)).length = zs.length := by
      simp [lits]
      omega
    rw [h1] at z
    exact Nat.le_trans (Nat.mul_le_mul_right _ hl2) z
end Go.Proofs.YtebfnjabgkhngaaW.PrintWords
end
section
set_option linter.all false
set_option linter.unusedVariables false
set_option linter.unusedSimpArgs false
set_option linter.constructorNameAsVariable false
namespace Go.Proofs.Ytebfnjabgkhngaa.scaleLasts
open Go.ChangeShapes Go.WideShapes Go.ChangeAt Go.RowKit
open Go.ChangeMaps (open_string shut_string)
set_option linter.unusedVariables false
theorem own : ownKnob Try.prog.godebug = none := by kernel_rfl
theorem laidOut : laidOutB Try.prog = true := by kernel_rfl
def IsRow (k : IntKind) (w : World) (a : Option Addr) (len cap : Nat) (zs : List Int) : Prop :=
  (a = none ∧ len = 0 ∧ cap = 0 ∧ zs = []) ∨
  ∃ x, a = some x ∧ len ≤ cap ∧ cap ≤ maxLen ∧ zs.length = cap ∧ (∀ i, i < zs.length → w.cell? (x.add i) = some (.int k (zs.getD i 0))) ∧ ∀ n ∈ zs, (Lit.int k n).wf = true
set_option maxRecDepth 100000 in
theorem lifted (os : Os) (started : os.Started) (H : Type) (enc : TypeId × Value → H) :
    ReturnsInHanded {} Try.checked os 5 .any (Rows.scaleLastsSpec.pre6 enc Try.prog Try.f5 Rows.scaleLastsRow.domain false) (Rows.scaleLastsSpec.post enc Try.prog Try.f5 false true false false) := by
  refine returnsInHanded_of_change_sized (C := Try.checked) own started (by kernel_rfl) Try.func5
    (ChangeSpec.witness6 (enc := enc) (C := Try.checked) false ⟨#[], #[.slice none 0 0], []⟩ 8 (by kernel_rfl) (by kernel_rfl) (by kernel_rfl) (by kernel_rfl)) ?_
  intro W base args ds gs before hval0 hW hcnd hsz0 _
  have hsz : (DataW.weightsEach Try.prog (Try.f5.params.toList ++ Rows.scaleLastsSpec.plain.varTypes Try.prog) (ds ++ gs)).all (· ≤ reachBytes) = true := hsz0
  have hval : ∀ (j : Nat) t v, Try.f5.params[j]? = some t → args[j]? = some v → Value.okWide Try.prog W .any base t v := hval0
  have hW' := hW
  obtain ⟨p, q, hA0, hV, rfl, hfz, hnd⟩ := hW
  have hA : DataW.TrodAll enc Try.prog W 0 (fun _ => true) true Try.f5.params.toList args.toList ds p := hA0
  rw [Try.params5] at hA hval hsz
  obtain ⟨v0, vs0, d0, ds0, p0, q0, hargs, rfl, rfl, h0, r0⟩ := trodAll_cons hA
  obtain ⟨rfl, rfl, rfl⟩ := trodAll_nil r0
  obtain rfl : args = #[v0] := by cases args; simp_all
  obtain ⟨rfl, rfl⟩ := trodVars_none hV
  obtain ⟨a0, len0, cap0, rfl⟩ := okWide_slice Try.underlying30 (hval 0 30 v0 rfl rfl)
  have k0 := h0
  have lt0 : ∀ x ∈ p0, x.block < W.heap.size := by obtain ⟨m, hm⟩ := k0; exact DataW.trod_lt m _ _ _ hm
  obtain ⟨z0, w0⟩ : ∃ zs, IsRow .i64 W a0 len0 cap0 zs := by
    obtain ⟨fuel, hf⟩ := h0
    rcases open_ints Try.underlying30 Try.underlying3 (by kernel_rfl) hf with ⟨hcs, _⟩ | ⟨x, l, c, zs, hcs, _, hl, hm, hz, _, hcell, hwz⟩
    · simp [Value.cells] at hcs
      obtain ⟨rfl, rfl, rfl⟩ := hcs
      exact ⟨[], .inl ⟨rfl, rfl, rfl, rfl⟩⟩
    · simp [Value.cells] at hcs
      obtain ⟨rfl, rfl, rfl⟩ := hcs
      exact ⟨zs, .inr ⟨_, rfl, hl, hm, by simpa using hz, hcell, hwz⟩⟩
  have y0 : len0 * 8 ≤ 140737488351232 := Go.Proofs.YtebfnjabgkhngaaW.PrintWords.sized_ints hsz (j := 0) (t := 30) rfl rfl Try.underlying30 Try.underlying3 (by kernel_rfl) (by kernel_rfl) h0
  clear hA0 hval0 hsz0 hsz
  refine (Q.shambleslaw01_ScaleLasts.walk Pure.ScaleLasts a0 len0 cap0 z0 W w0 y0).mono fun e W' ⟨he, bel⟩ => ?_
  subst he
  exact ⟨_, rfl, _, _, _, [], _, [], hW', trodAll_mk1 (shut_bool Try.underlying4 _), (trodAll_cons_mk (Below.trod laidOut (by kernel_rfl) (of_decide_eq_true (by kernel_rfl)) k0 bel lt0) trodAll_mk0), rfl, bel.frame _, fun h => by cases h⟩
theorem over : Rows.scaleLastsRow.holds Try.pinned (OpenSpec.ofChange Rows.scaleLastsSpec) :=
  OpenClaim.holds_of_wide 5 Try.f5 rfl rfl rfl rfl rfl rfl rfl ⟨rfl, rfl, rfl, rfl, rfl⟩ rfl rfl rfl rfl rfl (by kernel_rfl) Try.func5 (by kernel_rfl)
    (of_decide_eq_true (by kernel_rfl)) (by unfold Func.isWrapper; first | (rw [if_pos (by decide +kernel)]; kernel_rfl) | (rw [if_neg (by decide +kernel)]; exact ⟨rfl, rfl⟩))
    (fun os started H enc _ => lifted os started H enc)
theorem proved : Rows.ScaleLastsSaid := over
end Go.Proofs.Ytebfnjabgkhngaa.scaleLasts
namespace Go.Proofs.Ytebfnjabgkhngaa
theorem scaleLasts_holds : Rows.ScaleLastsSaid := scaleLasts.proved
end Go.Proofs.Ytebfnjabgkhngaa
end
