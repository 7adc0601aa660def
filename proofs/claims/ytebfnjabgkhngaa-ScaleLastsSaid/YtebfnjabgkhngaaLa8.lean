/-
The statement ScaleLasts: proved for every input. Part 8 of 11.
-/
import Derived.ArgAppend
import Derived.Below
import Derived.BigQuiet
import Derived.Deep.AppendLies
import Derived.Deep.CutBlock
import Derived.Deep.DeepCutAuto
import Derived.Deep.Draws
import Derived.Deep.LoopGhost
import Derived.Deep.OwnRows
import Derived.Deep.QuietTactic
import Derived.Deep.RegionHeld3
import Derived.KernelRfl
import Derived.Laws.BitsLemmas
import Derived.Laws.BytesArg
import Derived.Laws.IdiomCopy
import Derived.Laws.MakeOwn
import Derived.Laws.OwnMore
import Derived.Laws.Rows
import Derived.Laws.Slices
import Derived.Lib.AppendStr
import Derived.Lib.ConvBytes
import Derived.Maps.AppendAt
import Derived.OrdersHeld
import Derived.OwnWalk
import Derived.RowKit
import Derived.RowKit3
import Derived.Tactics
import Derived.Test.YtebfnjabgkhngaaProg
import Derived.WalkKit
import Derived.WideLaws
import Derived.Test.YtebfnjabgkhngaaLa6
import Derived.Test.YtebfnjabgkhngaaLa7
section
set_option linter.all false
set_option linter.unusedVariables false
set_option linter.unusedSimpArgs false
set_option linter.constructorNameAsVariable false
namespace Go.Proofs.Ytebfnjabgkhngaa.Q
open Go.RowKit Go.Proofs.YtebfnjabgkhngaaW.PrintWords Go.Proofs.YtebfnjabgkhngaaW.PrintLast Go.Proofs.YtebfnjabgkhngaaW.PrintMore
attribute [local go_sem] max2_int min2_int max_two min_two max_three min_three max_four min_four
set_option linter.unusedVariables false
set_option linter.unusedSimpArgs false
def errW : Option Int → Value
  | none => .nilIface
  | some c => .iface 0 (.int .i64 c)
theorem errW_none : errW none = .nilIface := rfl
theorem errW_some (c : Int) : errW (some c) = .iface 0 (.int .i64 c) := rfl
theorem info29 : (Try.prog.info? 29).map (fun i => (i.zero, i.size, i.bytes)) = some (some (.agg #[(.int .i64 0), (.int .i64 0), (.int .i64 0), (.int .i64 0)]), 4, 32) := by kernel_rfl
structure S50 where
  f0 : Int
  f1 : Int
def z50 : S50 := ⟨(0 : Int), (0 : Int)⟩
def k50 : Kd S50 := Kd.iso (Kd.pair (Kd.int .i64) (Kd.int .i64)) (fun x : S50 => (x.f0, x.f1))
theorem k50_open {w : World} {x : S50} {cs : List Value} (h : k50.K w x cs) : cs = [.int .i64 x.f0, .int .i64 x.f1] := by
  obtain ⟨_, _, rfl, rfl, rfl⟩ := h
  exact rfl
theorem k50_mk (w : World) (x : S50)  : k50.K w x [.int .i64 x.f0, .int .i64 x.f1] := ⟨[.int .i64 x.f0], [.int .i64 x.f1], rfl, rfl, rfl⟩
theorem k50_mkM (w : World) (base : Nat) (ok : Nat → Prop) (x : S50)  : k50.M w base ok x [.int .i64 x.f0, .int .i64 x.f1] := ⟨[.int .i64 x.f0], [.int .i64 x.f1], rfl, rfl, rfl⟩
def rd_T50 (xs : List S50) (i : Int) : S50 := xs.getD i.toNat z50
theorem at_T50 {w : World} {A : Option Addr} {n : Nat} {xs : List S50} (h : Kd.C k50 w A n xs) (i : Int) (h0 : 0 ≤ i) (h1 : i < n) : ∃ ad , A = some ad ∧ w.cell? (ad.add (i.toNat * 2)) = some (.int .i64 (rd_T50 xs i).f0) ∧ w.cell? ⟨(ad.add (i.toNat * 2)).block, (ad.add (i.toNat * 2)).off + 1, none⟩ = some (.int .i64 (rd_T50 xs i).f1) := by
  obtain ⟨ad, c, e, _, hK, hc0⟩ := Kd.C_get h z50 i h0 h1
  have hc : ∀ j u, c[j]? = some u → w.cell? (ad.add (i.toNat * 2 + j)) = some u := hc0
  obtain rfl := k50_open hK
  exact ⟨ad, e, hc 0 _ rfl, by rw [← add_field _ _ 1 (by omega)]; exact hc 1 _ rfl⟩
structure S92 where
  f0 : Int
  f1 : S50
def k92 : Kd S92 := Kd.iso (Kd.pair (Kd.int .i64) k50) (fun x : S92 => (x.f0, x.f1))
theorem k92_open {w : World} {x : S92} {cs : List Value} (h : k92.K w x cs) : cs = [.int .i64 x.f0, .int .i64 x.f1.f0, .int .i64 x.f1.f1] := by
  obtain ⟨_, _, rfl, rfl, s1⟩ := h
  obtain rfl := k50_open s1
  exact rfl
theorem k92_mkM (w : World) (base : Nat) (ok : Nat → Prop) (x : S92)  : k92.M w base ok x [.int .i64 x.f0, .int .i64 x.f1.f0, .int .i64 x.f1.f1] := ⟨[.int .i64 x.f0], [.int .i64 x.f1.f0, .int .i64 x.f1.f1], rfl, rfl, (k50_mkM w base ok x.f1 )⟩
structure S85 where
  f0 : Int
  f1 : Int
  f2 : S50
def k85 : Kd S85 := Kd.iso (Kd.pair (Kd.int .i64) (Kd.pair (Kd.int .i64) k50)) (fun x : S85 => (x.f0, x.f1, x.f2))
theorem k85_open {w : World} {x : S85} {cs : List Value} (h : k85.K w x cs) : cs = [.int .i64 x.f0, .int .i64 x.f1, .int .i64 x.f2.f0, .int .i64 x.f2.f1] := by
  obtain ⟨_, _, rfl, rfl, ⟨_, _, rfl, rfl, s2⟩⟩ := h
  obtain rfl := k50_open s2
  exact rfl
theorem k85_mkM (w : World) (base : Nat) (ok : Nat → Prop) (x : S85)  : k85.M w base ok x [.int .i64 x.f0, .int .i64 x.f1, .int .i64 x.f2.f0, .int .i64 x.f2.f1] := ⟨[.int .i64 x.f0], [.int .i64 x.f1, .int .i64 x.f2.f0, .int .i64 x.f2.f1], rfl, rfl, ⟨[.int .i64 x.f1], [.int .i64 x.f2.f0, .int .i64 x.f2.f1], rfl, rfl, (k50_mkM w base ok x.f2 )⟩⟩
structure S95 where
  f0 : S50
  f1 : S50
def k95 : Kd S95 := Kd.iso (Kd.pair k50 k50) (fun x : S95 => (x.f0, x.f1))
theorem k95_open {w : World} {x : S95} {cs : List Value} (h : k95.K w x cs) : cs = [.int .i64 x.f0.f0, .int .i64 x.f0.f1, .int .i64 x.f1.f0, .int .i64 x.f1.f1] := by
  obtain ⟨_, _, rfl, s0, s2⟩ := h
  obtain rfl := k50_open s0
  obtain rfl := k50_open s2
  exact rfl
theorem k95_mkM (w : World) (base : Nat) (ok : Nat → Prop) (x : S95)  : k95.M w base ok x [.int .i64 x.f0.f0, .int .i64 x.f0.f1, .int .i64 x.f1.f0, .int .i64 x.f1.f1] := ⟨[.int .i64 x.f0.f0, .int .i64 x.f0.f1], [.int .i64 x.f1.f0, .int .i64 x.f1.f1], rfl, (k50_mkM w base ok x.f0 ), (k50_mkM w base ok x.f1 )⟩
structure S29 where
  f0 : Int
  f1 : Int
  f2 : Int
  f3 : Int
def k29 : Kd S29 := Kd.iso (Kd.pair (Kd.int .i64) (Kd.pair (Kd.int .i64) (Kd.pair (Kd.int .i64) (Kd.int .i64)))) (fun x : S29 => (x.f0, x.f1, x.f2, x.f3))
theorem k29_open {w : World} {x : S29} {cs : List Value} (h : k29.K w x cs) : cs = [.int .i64 x.f0, .int .i64 x.f1, .int .i64 x.f2, .int .i64 x.f3] := by
  obtain ⟨_, _, rfl, rfl, ⟨_, _, rfl, rfl, ⟨_, _, rfl, rfl, rfl⟩⟩⟩ := h
  exact rfl
theorem k29_mkM (w : World) (base : Nat) (ok : Nat → Prop) (x : S29)  : k29.M w base ok x [.int .i64 x.f0, .int .i64 x.f1, .int .i64 x.f2, .int .i64 x.f3] := ⟨[.int .i64 x.f0], [.int .i64 x.f1, .int .i64 x.f2, .int .i64 x.f3], rfl, rfl, ⟨[.int .i64 x.f1], [.int .i64 x.f2, .int .i64 x.f3], rfl, rfl, ⟨[.int .i64 x.f2], [.int .i64 x.f3], rfl, rfl, rfl⟩⟩⟩
structure S100 where
  f0 : Int
  f1 : Int
def z100 : S100 := ⟨(0 : Int), (0 : Int)⟩
def k100 : Kd S100 := Kd.iso (Kd.pair (Kd.int .i64) (Kd.int .i64)) (fun x : S100 => (x.f0, x.f1))
theorem k100_open {w : World} {x : S100} {cs : List Value} (h : k100.K w x cs) : cs = [.int .i64 x.f0, .int .i64 x.f1] := by
  obtain ⟨_, _, rfl, rfl, rfl⟩ := h
  exact rfl
theorem k100_mk (w : World) (x : S100)  : k100.K w x [.int .i64 x.f0, .int .i64 x.f1] := ⟨[.int .i64 x.f0], [.int .i64 x.f1], rfl, rfl, rfl⟩
theorem k100_mkM (w : World) (base : Nat) (ok : Nat → Prop) (x : S100)  : k100.M w base ok x [.int .i64 x.f0, .int .i64 x.f1] := ⟨[.int .i64 x.f0], [.int .i64 x.f1], rfl, rfl, rfl⟩
def rd_T100 (xs : List S100) (i : Int) : S100 := xs.getD i.toNat z100
theorem at_T100 {w : World} {A : Option Addr} {n : Nat} {xs : List S100} (h : Kd.C k100 w A n xs) (i : Int) (h0 : 0 ≤ i) (h1 : i < n) : ∃ ad , A = some ad ∧ w.cell? (ad.add (i.toNat * 2)) = some (.int .i64 (rd_T100 xs i).f0) ∧ w.cell? ⟨(ad.add (i.toNat * 2)).block, (ad.add (i.toNat * 2)).off + 1, none⟩ = some (.int .i64 (rd_T100 xs i).f1) := by
  obtain ⟨ad, c, e, _, hK, hc0⟩ := Kd.C_get h z100 i h0 h1
  have hc : ∀ j u, c[j]? = some u → w.cell? (ad.add (i.toNat * 2 + j)) = some u := hc0
  obtain rfl := k100_open hK
  exact ⟨ad, e, hc 0 _ rfl, by rw [← add_field _ _ 1 (by omega)]; exact hc 1 _ rfl⟩
end Go.Proofs.Ytebfnjabgkhngaa.Q
end
section
set_option linter.all false
set_option linter.unusedVariables false
set_option linter.unusedSimpArgs false
set_option linter.constructorNameAsVariable false
namespace Go.Proofs.Ytebfnjabgkhngaa.Q
open Go.RowKit Go.Proofs.YtebfnjabgkhngaaW.PrintWords Go.Proofs.YtebfnjabgkhngaaW.PrintLast Go.Proofs.YtebfnjabgkhngaaW.PrintMore
attribute [local go_sem] max2_int min2_int max_two min_two max_three min_three max_four min_four
set_option linter.unusedVariables false
set_option linter.unusedSimpArgs false
theorem eqA100 (d : Nat) (w : World) (x0 y0 : Int) (x1 y1 : Int) :
    (Op.equalIn (d + 2) 100 (.agg #[.int .i64 x0, .int .i64 x1]) (.agg #[.int .i64 y0, .int .i64 y1])).run Try.prog w = .ok (x0 == y0 && (x1 == y1)) w := by
  refine eqA_of Try.underlying100 (by kernel_rfl) ?_
  refine eqf_cons (by rfl) (by go_simp; rfl) (by go_simp; rfl) (by go_simp) ?_
  exact eqf_last (by rfl) (by go_simp; rfl) (by go_simp; rfl) (by go_simp)
end Go.Proofs.Ytebfnjabgkhngaa.Q
end
section
set_option linter.all false
set_option linter.unusedVariables false
set_option linter.unusedSimpArgs false
set_option linter.constructorNameAsVariable false
namespace Go.Proofs.Ytebfnjabgkhngaa.Q
open Go.RowKit Go.Proofs.YtebfnjabgkhngaaW.PrintWords Go.Proofs.YtebfnjabgkhngaaW.PrintLast Go.Proofs.YtebfnjabgkhngaaW.PrintMore
attribute [local go_sem] max2_int min2_int max_two min_two max_three min_three max_four min_four
set_option linter.unusedVariables false
set_option linter.unusedSimpArgs false
attribute [local go_sem high] eqA100
def shambleskit_SameTests.l0 : Nat → List (S100) → List (S100) → Bool → Int → Option (Bool)
  | 0, _, _, _, _ => none
  | k + 1, x0, x1, x5, x6 => if x5 = true then (if x6 < (x0.length : Int) then (if 0 ≤ x6 then (if x6 < (x1.length : Int) then (shambleskit_SameTests.l0 k x0 x1 (((rd_T100 x0 x6).f0) == ((rd_T100 x1 x6).f0) && (((rd_T100 x0 x6).f1) == ((rd_T100 x1 x6).f1))) (wrap64 (x6 + 1))) else (none)) else (none)) else (some x5)) else (some x5)
def shambleskit_SameTests.f (k : Nat) (l0 : List (S100)) (l1 : List (S100)) : Option (Bool) := shambleskit_SameTests.l0 k l0 l1 ((l0.length : Int) == (l1.length : Int)) 0
set_option maxHeartbeats 8000000 in
set_option maxRecDepth 100000 in
theorem shambleskit_SameTests.calls (k : Nat) (A0 : Option Addr) (c0 : Nat) (l0 : List (S100)) (A1 : Option Addr) (c1 : Nat) (l1 : List (S100)) (r : Bool) (w : World) (hr0 : Kd.C k100 w A0 l0.length l0) (hc0 : l0.length ≤ c0) (hr1 : Kd.C k100 w A1 l1.length l1) (hc1 : l1.length ≤ c1) (h : shambleskit_SameTests.f k l0 l1 = some r) :
    Calls Try.prog 32 #[.slice A0 l0.length c0, .slice A1 l1.length c1] w fun e w' => e = .returned (.bool r) ∧ Drawn0 w w' := by
  have hu100 := Try.underlying100
  have HR0 := Aside0.mk hr0
  have HC0 := Aside0.mk hc0
  clear hr0 hc0
  have HR1 := Aside0.mk hr1
  have HC1 := Aside0.mk hc1
  clear hr1 hc1
  have H : (shambleskit_SameTests.l0 k l0 l1 ((l0.length : Int) == (l1.length : Int)) 0) = some r := h
  clear h
  have H' := Aside0.mk H
  clear H
  go_enter Try.func32, Try.ntmps32
  go_wp2
  repeat (go_quiet (fail); try go_wp2)
  go_loopg [5, 6] k (fun kq v5 v6 w' => ∃ (x5_1 : Bool) (x6_1 : Int), v5 = .bool x5_1 ∧ v6 = .int .i64 x6_1 ∧ Aside0 (shambleskit_SameTests.l0 kq l0 l1 x5_1 x6_1 = some r) ∧ Aside0 (kq ≤ k) ∧ Drawn0 w w')
  case atStart => exact ⟨(((l0.length : Int) == (l1.length : Int))), (0), (by first | rfl | (simp; done) | (simp [*]; done)), (by first | rfl | (simp; done) | (simp [*]; done)), H', ⟨Nat.le_refl _⟩, by repeat (first | exact Drawn0.refl _ | apply Drawn0.step)⟩
  case round =>
    clear H'
    try clear c1
    try clear p2
    obtain ⟨x5_1, x6_1, rfl, rfl, HA, HK1, ⟨m1, rfl⟩⟩ := hrel
    cases gk with
    | zero => exact absurd HA.out (by simp [shambleskit_SameTests.l0])
    | succ k1 =>
      have H := HA.out
      clear HA
      simp only [shambleskit_SameTests.l0] at H
      by_cases c3 : x5_1 = true
      · subst c3
        have H1 : (if x6_1 < (l0.length : Int) then (if 0 ≤ x6_1 then (if x6_1 < (l1.length : Int) then (shambleskit_SameTests.l0 k1 l0 l1 (((rd_T100 l0 x6_1).f0) == ((rd_T100 l1 x6_1).f0) && (((rd_T100 l0 x6_1).f1) == ((rd_T100 l1 x6_1).f1))) (wrap64 (x6_1 + 1))) else (none)) else (none)) else (some true)) = some r := by rw [if_pos rfl] at H; exact H
        clear H
        have H := H1
        clear H1
        by_cases c4 : x6_1 < (l0.length : Int)
        · rw [if_pos c4] at H
          have c4b0 : decide (x6_1 < (l0.length : Int)) = true := decide_eq_true c4
          clear c4
          by_cases c5 : 0 ≤ x6_1
          · rw [if_pos c5] at H
            have c5b0 : decide (0 ≤ x6_1) = true := decide_eq_true c5
            clear c5
            by_cases c6 : x6_1 < (l1.length : Int)
            · rw [if_pos c6] at H
              have c6b0 : decide (x6_1 < (l1.length : Int)) = true := decide_eq_true c6
              clear c6
              have H' := Aside0.mk H
              clear H
              have p156 : 0 ≤ (x6_1 : Int) := of_decide_eq_true (by first | (with_reducible assumption) | assumption)
              have q156 : x6_1 < (l0.length : Int) := of_decide_eq_true (by first | (with_reducible assumption) | assumption)
              obtain ⟨ad156, e156, hx156_0, hx156_1⟩ := at_T100 HR0.out x6_1 p156 q156
              cases e156
              replace p156 := eq_true p156
              replace q156 := eq_true q156
              have p157 : 0 ≤ (x6_1 : Int) := of_decide_eq_true (by first | (with_reducible assumption) | assumption)
              have q157 : x6_1 < (l1.length : Int) := of_decide_eq_true (by first | (with_reducible assumption) | assumption)
              obtain ⟨ad157, e157, hx157_0, hx157_1⟩ := at_T100 HR1.out x6_1 p157 q157
              cases e157
              replace p157 := eq_true p157
              replace q157 := eq_true q157
              go_wp2
              repeat (go_quiet (fail); try go_wp2)
              go_roundg k1
              case measure => have := HK1.out; omega
              case rel => exact ⟨((((rd_T100 l0 x6_1).f0) == ((rd_T100 l1 x6_1).f0) && (((rd_T100 l0 x6_1).f1) == ((rd_T100 l1 x6_1).f1)))), (wrap64 (x6_1 + 1)), (by first | rfl | (simp; done) | (simp [*]; done)), (by first | rfl | (simp; done) | (simp [*]; done)), H', ⟨by have := HK1.out; omega⟩, by repeat (first | exact Drawn0.refl _ | apply Drawn0.step)⟩
            · rw [if_neg c6] at H
              exact absurd H (by simp)
          · rw [if_neg c5] at H
            exact absurd H (by simp)
        · rw [if_neg c4] at H
          have c4b0 : decide (x6_1 < (l0.length : Int)) = false := decide_eq_false c4
          clear c4
          obtain rfl := Option.some.inj H
          go_wp2
          repeat (go_quiet (fail); try go_wp2)
          go_ret
          exact ⟨by first | rfl | (simp; done) | (simp [*]; done), by repeat (first | exact Drawn0.refl _ | apply Drawn0.step)⟩
      · replace c3 := Bool.eq_false_iff.mpr c3
        subst c3
        have H1 : (some false) = some r := by rw [if_neg (show ¬ (false = true) by decide)] at H; exact H
        clear H
        have H := H1
        clear H1
        obtain rfl := Option.some.inj H
        go_wp2
        repeat (go_quiet (fail); try go_wp2)
        go_ret
        exact ⟨by first | rfl | (simp; done) | (simp [*]; done), by repeat (first | exact Drawn0.refl _ | apply Drawn0.step)⟩
def IsS108 (w0 W : World) (g : Nat) (f0 : Int) : Prop := W.heap[g]? = some (.cells #[.int .u64 f0] 108 (0, 0)) ∧ w0.heap.size ≤ g
theorem IsS108.grown {w0 W : World} {g : Nat} {f0 : Int} {W1 : World} {row : Option Nat} (h : IsS108 w0 W g f0) (hw : W.grownBy W1 row) (hne : some g ≠ row) : IsS108 w0 W1 g f0 := by
  obtain ⟨hb, hg⟩ := h
  exact ⟨blk_grown hb hw hne, hg⟩
theorem IsS108.kept {w0 W : World} {g : Nat} {f0 : Int} {W1 : World} {S : Nat → Prop} (h : IsS108 w0 W g f0) (hk : Kept W W1 S) (hne : ¬ S g) : IsS108 w0 W1 g f0 := by
  obtain ⟨hb, hg⟩ := h
  exact ⟨blk_kept hb hk hne, hg⟩
theorem IsS108.below {w0 W : World} {g : Nat} {f0 : Int} {W1 : World} (h : IsS108 w0 W g f0) (hw : Below W.heap.size W W1) : IsS108 w0 W1 g f0 := h.grown (grown_of_below hw none) (by simp)
theorem IsS108.alloc {w0 W : World} {g : Nat} {f0 : Int} (h : IsS108 w0 W g f0) (o : Obj) : IsS108 w0 (W.alloc o) g f0 := h.below (below_alloc (Below.refl _ _) o)
theorem IsS108.drewN {w0 W : World} {g : Nat} {f0 : Int} (h : IsS108 w0 W g f0) (m : Nat) : IsS108 w0 (W.drewN m) g f0 := h
theorem IsS108.drew {w0 W : World} {g : Nat} {f0 : Int} (h : IsS108 w0 W g f0) : IsS108 w0 W.drew g f0 := h
theorem IsS108.at_ {w0 W : World} {g : Nat} {f0 : Int} {w' : World} {m : Nat} (hq : W.drewN m = w') (h : IsS108 w0 W g f0) : IsS108 w0 w' g f0 := by subst hq; exact IsS108.drewN h m
theorem IsS108.apart {w0 W : World} {g : Nat} {f0 : Int} {α : Type} {d : Kd α} {e : Nat} {base : Nat} {ok : Nat → Prop} {v : Value} {xs : List α} (h : IsS108 w0 W g f0) (ho : d.R e W base ok v xs) (ht : ∀ q, q ∈ e :: d.E → q ≠ 108) : d.R e W base (fun k => ok k ∧ k ≠ g) v xs := by
  obtain ⟨hb, hg⟩ := h
  exact Kd.R_types ho hb ht
theorem IsS108.own_ne {w0 W : World} {g : Nat} {f0 : Int} {α : Type} {d : Kd α} {e : Nat} {base : Nat} {ok : Nat → Prop} {v : Value} {xs : List α} (h : IsS108 w0 W g f0) (ho : d.R e W base ok v xs) (ht : e ≠ 108) : some g ≠ v.ownBlock := by
  obtain ⟨hb, hg⟩ := h
  exact Kd.R_ne ho hb ht
theorem IsS108.lt {w0 W : World} {g : Nat} {f0 : Int} (h : IsS108 w0 W g f0) : g < W.heap.size := by
  obtain ⟨hb, hg⟩ := h
  exact blk_lt hb
theorem IsS108.ge {w0 W : World} {g : Nat} {f0 : Int} (h : IsS108 w0 W g f0) : w0.heap.size ≤ g := by
  obtain ⟨hb, hg⟩ := h
  exact hg
theorem IsS108.far {w0 W : World} {g : Nat} {f0 : Int} {p : Addr} (h : IsS108 w0 W g f0) (hne : g ≠ p.block) (u : Value) : IsS108 w0 (W.setCell p u) g f0 := by
  obtain ⟨hb, hg⟩ := h
  exact ⟨blk_far hb hne u, hg⟩
theorem cellS108_0 {W : World} {g : Nat} {f0 : Int} (h : W.heap[g]? = some (.cells #[.int .u64 f0] 108 (0, 0))) : W.cell? ⟨g, 0, none⟩ = some (.int .u64 f0) := (blk_cell h 0).trans rfl
theorem IsS108.set_0 {w0 W : World} {g : Nat} {f0 : Int} (h : IsS108 w0 W g f0) (x : Int) : IsS108 w0 (W.setCell ⟨g, 0, none⟩ (.int .u64 x)) g x := by
  obtain ⟨hb, hg⟩ := h
  exact ⟨by simpa using blk_set hb 0 (.int .u64 x), hg⟩
theorem IsS108.new (w0 W : World) (f0 : Int) (hB : Below w0.heap.size w0 W) : IsS108 w0 (W.alloc (.cells #[.int .u64 f0] 108)) W.heap.size f0 := ⟨by simpa using heap_alloc_new W _, hB.size⟩
def shambleskit_Die_roll.f (s0_0 : Int) : Option (Int × Int) := some (Go.bits .xor .u64 (IntKind.u64.wrap ((Go.bits .xor .u64 (IntKind.u64.wrap ((Go.bits .xor .u64 (IntKind.u64.wrap (s0_0 + 11562461410679940143)) ((IntKind.u64.wrap (s0_0 + 11562461410679940143)) / 1073741824)) * 13787848793156543929)) ((IntKind.u64.wrap ((Go.bits .xor .u64 (IntKind.u64.wrap (s0_0 + 11562461410679940143)) ((IntKind.u64.wrap (s0_0 + 11562461410679940143)) / 1073741824)) * 13787848793156543929)) / 134217728)) * 10723151780598845931)) ((IntKind.u64.wrap ((Go.bits .xor .u64 (IntKind.u64.wrap ((Go.bits .xor .u64 (IntKind.u64.wrap (s0_0 + 11562461410679940143)) ((IntKind.u64.wrap (s0_0 + 11562461410679940143)) / 1073741824)) * 13787848793156543929)) ((IntKind.u64.wrap ((Go.bits .xor .u64 (IntKind.u64.wrap (s0_0 + 11562461410679940143)) ((IntKind.u64.wrap (s0_0 + 11562461410679940143)) / 1073741824)) * 13787848793156543929)) / 134217728)) * 10723151780598845931)) / 2147483648), IntKind.u64.wrap (s0_0 + 11562461410679940143))
set_option maxHeartbeats 8000000 in
set_option maxRecDepth 100000 in
theorem shambleskit_Die_roll.calls (g : Nat) (s0_0 : Int) (r1 : Int) (r2 : Int) (w0 w : World) (hI : IsS108 w0 w g s0_0) (hB : Below w0.heap.size w0 w) (h : shambleskit_Die_roll.f s0_0 = some (r1, r2)) :
    Calls Try.prog 64 #[.pointer (some ⟨g, 0, none⟩)] w fun e w' => e = .returned (.int .u64 r1) ∧ IsS108 w0 w' g r2 ∧ Below w0.heap.size w0 w' ∧ KeepBut w w' g none := by
  have HI0 := Aside0.mk hI
  have HK := Aside0.mk (KeepBut.refl w g none)
  have HL := Aside0.mk hB.size
  clear hI
  have HW0 := Aside0.mk hB.size
  have HB := Aside0.mk hB
  clear hB
  have H : (some (Go.bits .xor .u64 (IntKind.u64.wrap ((Go.bits .xor .u64 (IntKind.u64.wrap ((Go.bits .xor .u64 (IntKind.u64.wrap (s0_0 + 11562461410679940143)) ((IntKind.u64.wrap (s0_0 + 11562461410679940143)) / 1073741824)) * 13787848793156543929)) ((IntKind.u64.wrap ((Go.bits .xor .u64 (IntKind.u64.wrap (s0_0 + 11562461410679940143)) ((IntKind.u64.wrap (s0_0 + 11562461410679940143)) / 1073741824)) * 13787848793156543929)) / 134217728)) * 10723151780598845931)) ((IntKind.u64.wrap ((Go.bits .xor .u64 (IntKind.u64.wrap ((Go.bits .xor .u64 (IntKind.u64.wrap (s0_0 + 11562461410679940143)) ((IntKind.u64.wrap (s0_0 + 11562461410679940143)) / 1073741824)) * 13787848793156543929)) ((IntKind.u64.wrap ((Go.bits .xor .u64 (IntKind.u64.wrap (s0_0 + 11562461410679940143)) ((IntKind.u64.wrap (s0_0 + 11562461410679940143)) / 1073741824)) * 13787848793156543929)) / 134217728)) * 10723151780598845931)) / 2147483648), IntKind.u64.wrap (s0_0 + 11562461410679940143))) = some (r1, r2) := h
  clear h
  simp only [Option.some.injEq, Prod.mk.injEq] at H
  obtain ⟨rfl, rfl⟩ := H
  obtain ⟨HGz2, hgz2⟩ := HI0.out
  have hcz2_0 := cellS108_0 HGz2
  have hfz2_0 := blk_frozen HGz2 0
  clear HGz2 hgz2
  go_enter Try.func64, Try.ntmps64
  go_wp2
  go_ret
  exact ⟨by first | rfl | (simp [errW_none, errW_some] <;> rfl) | (simp [*, errW_none, errW_some] <;> rfl), by repeat (first | (with_reducible first | exact HI0.out | apply IsS108.alloc | apply IsS108.drewN | apply IsS108.drew | apply IsS108.set_0) | exact HI0.out), by repeat (first | (with_reducible first | exact HB.out | apply below_alloc | apply pw_below_drewN | apply below_drew1 | refine below_set ?_ (IsS108.ge HI0.out)) | exact HB.out), by repeat (first | (with_reducible first | exact HK.out | apply KeepBut.set_ | apply keep_drewN | apply keep_drew | apply keep_alloc) | exact HK.out)⟩
end Go.Proofs.Ytebfnjabgkhngaa.Q
end
section
set_option linter.all false
set_option linter.unusedVariables false
set_option linter.unusedSimpArgs false
set_option linter.constructorNameAsVariable false
set_option linter.unusedVariables false
namespace Go.Proofs.Ytebfnjabgkhngaa
open Go.RowKit Go.RT
open Go.Proofs.YtebfnjabgkhngaaW.PrintWords (Kd ReadsRow OwnRow Reps)
theorem spot_none {w : World} {a : Addr} {v : Value} (h : w.cell? (a.add 0) = some v) : a = ⟨a.block, a.off, none⟩ := by
  obtain ⟨b, o, s⟩ := a
  cases s with
  | none => rfl
  | some s =>
    exfalso
    unfold World.cell? at h
    simp [Addr.add] at h
    split at h <;> simp_all
theorem add_at (b o k : Nat) : (⟨b, o, none⟩ : Addr).add k = ⟨b, o + k, none⟩ := by
  by_cases h0 : k = 0
  · subst h0; simp [Addr.add]
  · simp [Addr.add, h0]
theorem rd_of_C {α β : Type} {d : Kd α} {enc : β → List Value} (f : α → β) (hK : ∀ w x cs, d.K w x cs → cs = enc (f x)) (hs : 0 < d.sz) {w : World} {A : Option Addr} {n c : Nat} {xs : List α} (h : d.C w A n xs) (hl : n ≤ 4294967296) : Rd d.sz (Flat enc) w (.slice A n c) (xs.map f) := by
  obtain ⟨h1, _, h2⟩ := h
  refine ⟨A, c, by rw [List.length_map, h1], by rw [List.length_map, h1]; exact hl, fun i x hx => ?_⟩
  rw [List.getElem?_map] at hx
  obtain ⟨p, hp, rfl⟩ := Option.map_eq_some_iff.1 hx
  have hi : i < xs.length := (List.getElem?_eq_some_iff.1 hp).1
  obtain ⟨ad, hA, hc⟩ := h2 (by omega)
  obtain ⟨cs, hcl, hk, hcell⟩ := hc i p hp
  have he := hK _ _ _ hk
  subst hA
  obtain ⟨cs0, hcl0, _, hcell0⟩ := hc 0 xs[0] (List.getElem?_eq_getElem (by omega))
  have hu0 : cs0[0]? = some cs0[0] := List.getElem?_eq_getElem (by omega)
  have hsp := spot_none (by have := hcell0 0 _ hu0; simpa using this)
  refine ⟨ad.block, ad.off, cs, by rw [← hsp], he, hcl, fun j u hu => ?_⟩
  have := hcell j u hu
  rw [hsp, add_at] at this
  rwa [← Nat.add_assoc] at this
theorem flat_part {β : Type} {enc : β → List Value} {size : Nat} : ∀ (xs : List β) (j : Nat) (x : β), (∀ y ∈ xs, (enc y).length = size) → xs[j]? = some x → ((xs.flatMap enc).drop (j * size)).take size = enc x
  | [], j, x, _, h => by simp at h
  | y :: l, 0, x, hs, h => by
    simp only [List.getElem?_cons_zero, Option.some.injEq] at h
    subst h
    rw [Nat.zero_mul, List.drop_zero, List.flatMap_cons, ← hs y (by simp)]
    exact List.take_left
  | y :: l, j + 1, x, hs, h => by
    rw [List.flatMap_cons, Nat.succ_mul, Nat.add_comm, ← List.drop_drop]
    have hy := hs y (by simp)
    rw [show (enc y ++ l.flatMap enc).drop size = l.flatMap enc by rw [← hy]; exact List.drop_left]
    exact flat_part l j x (fun z hz => hs z (by simp [hz])) (by simpa using h)
theorem flat_len {β : Type} {enc : β → List Value} {size : Nat} : ∀ (xs : List β), (∀ y ∈ xs, (enc y).length = size) → (xs.flatMap enc).length = xs.length * size
  | [], _ => by simp
  | y :: l, hs => by
    rw [List.flatMap_cons, List.length_append, hs y (by simp), flat_len l (fun z hz => hs z (by simp [hz])), List.length_cons, Nat.succ_mul]
    omega
theorem R_of_own {α β : Type} {d : Kd α} {enc : β → List Value} (f : β → α) (hM : ∀ w base ok x, d.M w base ok (f x) (enc x)) (hs : ∀ x, (enc x).length = d.sz) {w : World} {base e n : Nat} {v : Value} {xs : List β} (hn : xs.length = n) (h : w.ownsRow base e d.sz v n (xs.flatMap enc)) :
    d.R e w base (fun _ => True) v (xs.map f) := by
  refine ⟨fun _ _ => trivial, xs.flatMap enc, by rw [List.length_map, hn]; exact h, by rw [List.length_map]; exact flat_len xs (fun y _ => hs y), fun j p hp => ?_⟩
  rw [List.getElem?_map] at hp
  obtain ⟨x, hx, rfl⟩ := Option.map_eq_some_iff.1 hp
  rw [flat_part xs j x (fun y _ => hs y) hx]
  exact hM _ _ _ _
theorem rdInts_of_C {w : World} {A : Option Addr} {n c : Nat} {xs : List Int} (h : (Kd.int .i64).C w A n xs) (hl : n ≤ 4294967296) : Rd 1 (Flat encI) w (.slice A n c) xs := by
  have := rd_of_C (d := Kd.int .i64) (enc := encI) (fun x => x) (fun w x cs h => h) (by decide) (c := c) h hl
  rw [List.map_id'] at this
  exact this
end Go.Proofs.Ytebfnjabgkhngaa
end
section
set_option linter.all false
set_option linter.unusedVariables false
set_option linter.unusedSimpArgs false
set_option linter.constructorNameAsVariable false
set_option linter.unusedVariables false
namespace Go.Proofs.Ytebfnjabgkhngaa
open Go.RowKit Go.RT
open Go.Proofs.YtebfnjabgkhngaaW.PrintWords (Kd ReadsRow OwnRow Reps)
def toMass (x : Q.S92) : Mass := ⟨x.f0, x.f1.f0, x.f1.f1⟩
def toWeighing (x : Q.S85) : Weighing := ⟨x.f0, x.f1, x.f2.f0, x.f2.f1⟩
def toScale (x : Q.S95) : Scale := ⟨x.f0.f0, x.f0.f1, x.f1.f0, x.f1.f1⟩
def toTrial (x : Q.S29) : Trial := ⟨x.f0, x.f1, x.f2, x.f3⟩
def toBench (r1 : List Q.S92) (r2 : List Q.S85) (r3 : List Q.S95) (r4 : List Q.S29) (r5 : Int) : Bench := ⟨r1.map toMass, r2.map toWeighing, r3.map toScale, r4.map toTrial, r5⟩
def ofD (x : D) : Q.S50 := ⟨x.1, x.2⟩
def ofDT (x : D) : Q.S100 := ⟨x.1, x.2⟩
theorem bench_of_C {w : World} {r1 : List Q.S92} {r2 : List Q.S85} {r3 : List Q.S95} {r4 : List Q.S29} {r5 : Int} {A1 A2 A3 A4 : Option Addr} {c1 c2 c3 c4 : Nat}
    (h1 : Q.k92.C w A1 r1.length r1) (h2 : Q.k85.C w A2 r2.length r2) (h3 : Q.k95.C w A3 r3.length r3) (h4 : Q.k29.C w A4 r4.length r4)
    (l1 : r1.length ≤ 4294967296) (l2 : r2.length ≤ 4294967296) (l3 : r3.length ≤ 4294967296) (l4 : r4.length ≤ 4294967296) :
    BenchRd w (.agg #[.slice A1 r1.length c1, .slice A2 r2.length c2, .slice A3 r3.length c3, .slice A4 r4.length c4, .int .i64 r5]) (toBench r1 r2 r3 r4 r5) :=
  ⟨_, _, _, _, rfl, rd_of_C (enc := encMass) toMass (fun _ _ _ h => Q.k92_open h) (by decide) h1 l1, rd_of_C (enc := encWeighing) toWeighing (fun _ _ _ h => Q.k85_open h) (by decide) h2 l2,
    rd_of_C (enc := encScale) toScale (fun _ _ _ h => Q.k95_open h) (by decide) h3 l3, rd_of_C (enc := encTrial) toTrial (fun _ _ _ h => Q.k29_open h) (by decide) h4 l4⟩
theorem bench_of_R {w : World} {r1 : List Q.S92} {r2 : List Q.S85} {r3 : List Q.S95} {r4 : List Q.S29} {r5 : Int} {e1 e2 e3 e4 b1 b2 b3 b4 : Nat} {o1 o2 o3 o4 : Nat → Prop} {v1 v2 v3 v4 : Value}
    (h1 : Q.k92.R e1 w b1 o1 v1 r1) (h2 : Q.k85.R e2 w b2 o2 v2 r2) (h3 : Q.k95.R e3 w b3 o3 v3 r3) (h4 : Q.k29.R e4 w b4 o4 v4 r4)
    (l1 : r1.length ≤ 4294967296) (l2 : r2.length ≤ 4294967296) (l3 : r3.length ≤ 4294967296) (l4 : r4.length ≤ 4294967296) :
    BenchRd w (.agg #[v1, v2, v3, v4, .int .i64 r5]) (toBench r1 r2 r3 r4 r5) := by
  obtain ⟨A1, c1, rfl, _, g1⟩ := Go.Proofs.YtebfnjabgkhngaaW.PrintWords.Kd.R_reads h1
  obtain ⟨A2, c2, rfl, _, g2⟩ := Go.Proofs.YtebfnjabgkhngaaW.PrintWords.Kd.R_reads h2
  obtain ⟨A3, c3, rfl, _, g3⟩ := Go.Proofs.YtebfnjabgkhngaaW.PrintWords.Kd.R_reads h3
  obtain ⟨A4, c4, rfl, _, g4⟩ := Go.Proofs.YtebfnjabgkhngaaW.PrintWords.Kd.R_reads h4
  exact bench_of_C g1 g2 g3 g4 l1 l2 l3 l4
theorem seals_of_C {w : World} {l e : List Int} {m d : Int} {A1 A2 : Option Addr} {c1 c2 : Nat} (h1 : (Kd.int .i64).C w A1 l.length l) (h2 : (Kd.int .i64).C w A2 e.length e) (l1 : l.length ≤ 4294967296) (l2 : e.length ≤ 4294967296) :
    SealsRd w (.agg #[.slice A1 l.length c1, .slice A2 e.length c2, .int .i64 m, .int .i64 d]) ⟨l, e, m, d⟩ := ⟨_, _, rfl, rdInts_of_C h1 l1, rdInts_of_C h2 l2⟩
theorem spans_R {w : World} {base n : Nat} {v : Value} {xs : List D} (hn : xs.length = n) (h : w.ownsRow base 50 2 v n (xs.flatMap encD)) : Q.k50.R 50 w base (fun _ => True) v (xs.map ofD) :=
  R_of_own (d := Q.k50) (enc := encD) ofD (fun w b ok x => Q.k50_mkM w b ok (ofD x)) (fun _ => rfl) hn h
theorem tests_R {w : World} {base n : Nat} {v : Value} {xs : List D} (hn : xs.length = n) (h : w.ownsRow base 100 2 v n (xs.flatMap encD)) : Q.k100.R 100 w base (fun _ => True) v (xs.map ofDT) :=
  R_of_own (d := Q.k100) (enc := encD) ofDT (fun w b ok x => Q.k100_mkM w b ok (ofDT x)) (fun _ => rfl) hn h
theorem ints_R {w : World} {base n : Nat} {v : Value} {xs : List Int} (hn : xs.length = n) (h : w.ownsRow base 3 1 v n (xs.flatMap encI)) : (Kd.int .i64).R 3 w base (fun _ => True) v xs := by
  have := R_of_own (d := Kd.int .i64) (enc := encI) (fun x => x) (fun w b ok x => rfl) (fun _ => rfl) hn h
  rw [List.map_id'] at this
  exact this
theorem foldF_of_chain {n : Nat} : ∀ (l : List Fact) (t t' : List (List D)), Chain n l t t' → foldF n l t = some t'
  | [], t, t', h => by rw [show t = t' from h]; rfl
  | f :: l, t, t', ⟨_, _, _, _, t1, h1, h2⟩ => by rw [foldF, h1]; exact foldF_of_chain l t1 t' h2
def startT (b : Bench) (dd : Nat) : List (List D) := (foldF (Ncnt b dd) (startFacts b dd) (blankT (Ncnt b dd))).getD []
theorem startT_of {b : Bench} {dd : Nat} {t0 : List (List D)} (h : Ready b dd (Ncnt b dd) t0) : t0 = startT b dd := by
  unfold startT; rw [foldF_of_chain _ _ _ h.hch]; rfl
theorem ready_start {b : Bench} {dd : Nat} (h : checkErr b = 0) (hd : b.days = dd) : Ready b dd (Ncnt b dd) (startT b dd) := by
  obtain ⟨dd', hV⟩ := valid_of_check h
  obtain rfl : dd' = dd := by have := hV.days; omega
  obtain ⟨t0, hR, _⟩ := ready_of hV
  rw [← startT_of hR]; exact hR
end Go.Proofs.Ytebfnjabgkhngaa
end
section
set_option linter.all false
set_option linter.unusedVariables false
set_option linter.unusedSimpArgs false
set_option linter.constructorNameAsVariable false
namespace Go.Proofs.Ytebfnjabgkhngaa.Q
open Go.RowKit Go.Proofs.YtebfnjabgkhngaaW.PrintWords Go.Proofs.YtebfnjabgkhngaaW.PrintLast Go.Proofs.YtebfnjabgkhngaaW.PrintMore
attribute [local go_sem] max2_int min2_int max_two min_two max_three min_three max_four min_four
set_option linter.unusedVariables false
set_option linter.unusedSimpArgs false
theorem eqA50 (d : Nat) (w : World) (x0 y0 : Int) (x1 y1 : Int) :
    (Op.equalIn (d + 2) 50 (.agg #[.int .i64 x0, .int .i64 x1]) (.agg #[.int .i64 y0, .int .i64 y1])).run Try.prog w = .ok (x0 == y0 && (x1 == y1)) w := by
  refine eqA_of Try.underlying50 (by kernel_rfl) ?_
  refine eqf_cons (by rfl) (by go_simp; rfl) (by go_simp; rfl) (by go_simp) ?_
  exact eqf_last (by rfl) (by go_simp; rfl) (by go_simp; rfl) (by go_simp)
end Go.Proofs.Ytebfnjabgkhngaa.Q
end
