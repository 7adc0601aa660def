/-
The statement ScaleLasts: proved for every input. Part 4 of 11.
-/
import Derived.Laws.AppendOwn
import Derived.Laws.EntriesVeiled
import Derived.Lib.LazyBuf
import Derived.OwnWalk
import Derived.RangeFuncBox
import Derived.WalkKit
import Derived.Test.YtebfnjabgkhngaaLa3
section
set_option linter.all false
set_option linter.unusedVariables false
set_option linter.unusedSimpArgs false
set_option linter.constructorNameAsVariable false
set_option linter.unusedVariables false
namespace Go.Proofs.Ytebfnjabgkhngaa
open Go.RowKit Go.RT
set_option maxRecDepth 100000 in
set_option maxHeartbeats 1000000 in
theorem error_any (n : Nat) (A A0 : Option Addr) (c nm c0 dd s d : Nat) (ws sv tv : Value) (t : List (List D)) (w : World) (hn : n ≤ 1000) (ht : TabRd n w (.slice A n c) t) (hbd : TabBd n t) (hk : dayIx nm dd s d < n) (h1 : nm ≤ 1000) (h2 : s ≤ 1000) (h3 : dd ≤ 1000) (h4 : d ≤ 1000) :
    CallsVal 90 #[.agg #[.slice A0 nm c0, ws, sv, tv, .int .i64 dd], .slice A n c, .int .i64 s, .int .i64 d] w (.agg #[.int .i64 (turn2 (tget t 0 (dayIx nm dd s d))).1, .int .i64 (turn2 (tget t 0 (dayIx nm dd s d))).2]) := by
  obtain ⟨b, o, rfl⟩ := tab_some ht (by omega)
  obtain ⟨b1, o1, c1, r0, er⟩ := tab_at ht 0 (by omega)
  obtain ⟨a1, a2⟩ := er _ hk
  have hB := hbd 0 _ (by omega) hk
  have hday : ∀ u, CallsInt 117 #[.agg #[.slice A0 nm c0, ws, sv, tv, .int .i64 dd], .int .i64 s, .int .i64 d] u (dayIx nm dd s d) := fun u => dayN A0 nm c0 ws sv tv dd s d u h1 h2 h3 h4
  generalize hK : dayIx nm dd s d = K at *
  have hn0 : 0 < n := by omega
  have HDay := Lib.hid hday
  clear hday
  generalize tget t 0 K = e at *
  have HK := Lib.hid hK
  have HB := Lib.hid hB
  have HO0 := Lib.hid (OwnB.laid w 111 [.slice A0 nm c0, ws, sv, tv, .int .i64 dd])
  have HO1 := Lib.hid (OwnB.laid (w.alloc (.cells [.slice A0 nm c0, ws, sv, tv, .int .i64 dd].toArray 111)) 50 [.int .i64 0, .int .i64 0])
  simp only [Nat.add_zero] at r0
  clear ht er hB hbd hK
  go_enter Try.func90, Try.ntmps90
  go_wp2
  have E0 : Ext w ((w.alloc (.cells [.slice A0 nm c0, ws, sv, tv, .int .i64 dd].toArray 111)).alloc (.cells [.int .i64 0, .int .i64 0].toArray 50)) := (Ext.alloc _ _).trans (Ext.alloc _ _)
  have HO0 := Lib.hid (HO0.out.ext (Ext.alloc _ (.cells [.int .i64 0, .int .i64 0].toArray 50)))
  generalize (w.alloc (.cells [.slice A0 nm c0, ws, sv, tv, .int .i64 dd].toArray 111)).alloc (.cells [.int .i64 0, .int .i64 0].toArray 50) = wr at *
  refine region_ext 11 [(10, allocSp [.int .i64 0, .int .i64 0] 117 wr.heap.size)] (by kernel_rfl) (by kernel_rfl) ⟨allocSp_stable _ _ _, trivial⟩ ?_
  simp only [List.take_succ_cons, List.take_zero, List.drop_succ_cons, List.drop_zero]
  refine wpR_val (v := ?_) ?_ ?_ (fun w1 hS hK => ?_) ?_
  rotate_left
  · rfl
  · rfl
  · clear hK hS
    go_simp
    with_reducible rfl
  simp only [Act.put, List.setIfInBounds_toArray, List.set_cons_zero, List.set_cons_succ]
  refine wpR_val (v := ?_) ?_ ?_ (fun w1 hS hK => ?_) ?_
  rotate_left
  · rfl
  · rfl
  · have E1 := (E0).trans hS
    have k0 := (HO0.out.ext hS).cell (j := 0) rfl
    have k1 := (HO0.out.ext hS).cell (j := 1) rfl
    have k2 := (HO0.out.ext hS).cell (j := 2) rfl
    have k3 := (HO0.out.ext hS).cell (j := 3) rfl
    have k4 := (HO0.out.ext hS).cell (j := 4) rfl
    have k5 := E1.cell r0
    have k6 := E1.cell a1
    have k7 := E1.cell a2
    clear hK hS E1
    go_simp
    with_reducible rfl
  simp only [Act.put, List.setIfInBounds_toArray, List.set_cons_zero, List.set_cons_succ]
  refine wpR_val (v := ?_) ?_ ?_ (fun w1 hS hK => ?_) ?_
  rotate_left
  · rfl
  · rfl
  · have E1 := (E0).trans hS
    have k0 := (HO0.out.ext hS).cell (j := 0) rfl
    have k1 := (HO0.out.ext hS).cell (j := 1) rfl
    have k2 := (HO0.out.ext hS).cell (j := 2) rfl
    have k3 := (HO0.out.ext hS).cell (j := 3) rfl
    have k4 := (HO0.out.ext hS).cell (j := 4) rfl
    have k5 := E1.cell r0
    have k6 := E1.cell a1
    have k7 := E1.cell a2
    clear hK hS E1
    go_simp
    with_reducible rfl
  simp only [Act.put, List.setIfInBounds_toArray, List.set_cons_zero, List.set_cons_succ]
  refine wpR_val (v := ?_) ?_ ?_ (fun w1 hS hK => ?_) ?_
  rotate_left
  · rfl
  · rfl
  · have E1 := (E0).trans hS
    have k0 := (HO0.out.ext hS).cell (j := 0) rfl
    have k1 := (HO0.out.ext hS).cell (j := 1) rfl
    have k2 := (HO0.out.ext hS).cell (j := 2) rfl
    have k3 := (HO0.out.ext hS).cell (j := 3) rfl
    have k4 := (HO0.out.ext hS).cell (j := 4) rfl
    have k5 := E1.cell r0
    have k6 := E1.cell a1
    have k7 := E1.cell a2
    clear hK hS E1
    go_simp
    with_reducible rfl
  simp only [Act.put, List.setIfInBounds_toArray, List.set_cons_zero, List.set_cons_succ]
  refine wpR_val (v := ?_) ?_ ?_ (fun w1 hS hK => ?_) ?_
  rotate_left
  · rfl
  · rfl
  · clear hK hS
    go_simp
    with_reducible rfl
  simp only [Act.put, List.setIfInBounds_toArray, List.set_cons_zero, List.set_cons_succ]
  refine wpR_val (v := ?_) ?_ ?_ (fun w1 hS hK => ?_) ?_
  rotate_left
  · rfl
  · rfl
  · clear hK hS
    go_simp
    with_reducible rfl
  simp only [Act.put, List.setIfInBounds_toArray, List.set_cons_zero, List.set_cons_succ]
  refine wpR_call (v := ?_) (f := ?_) (args := ?_) ?_ ?_ (fun w => ?_) ?_ (fun w1 hS hK => ?_) ?_
  rotate_left 3
  · rfl
  · rfl
  · go_simp
    refine ⟨?_, ?_⟩ <;> rfl
  · kernel_rfl
  · exact HDay.out w1
  simp only [Act.put, List.setIfInBounds_toArray, List.set_cons_zero, List.set_cons_succ]
  refine wpR_val (v := ?_) ?_ ?_ (fun w1 hS hK => ?_) ?_
  rotate_left
  · rfl
  · rfl
  · have E1 := (E0).trans hS
    have k0 := (HO0.out.ext hS).cell (j := 0) rfl
    have k1 := (HO0.out.ext hS).cell (j := 1) rfl
    have k2 := (HO0.out.ext hS).cell (j := 2) rfl
    have k3 := (HO0.out.ext hS).cell (j := 3) rfl
    have k4 := (HO0.out.ext hS).cell (j := 4) rfl
    have k5 := E1.cell r0
    have k6 := E1.cell a1
    have k7 := E1.cell a2
    clear hK hS E1
    go_simp
    with_reducible rfl
  simp only [Act.put, List.setIfInBounds_toArray, List.set_cons_zero, List.set_cons_succ]
  refine wpR_val (v := ?_) ?_ ?_ (fun w1 hS hK => ?_) ?_
  rotate_left
  · rfl
  · rfl
  · have E1 := (E0).trans hS
    have k0 := (HO0.out.ext hS).cell (j := 0) rfl
    have k1 := (HO0.out.ext hS).cell (j := 1) rfl
    have k2 := (HO0.out.ext hS).cell (j := 2) rfl
    have k3 := (HO0.out.ext hS).cell (j := 3) rfl
    have k4 := (HO0.out.ext hS).cell (j := 4) rfl
    have k5 := E1.cell r0
    have k6 := E1.cell a1
    have k7 := E1.cell a2
    clear hK hS E1
    go_simp
    with_reducible rfl
  simp only [Act.put, List.setIfInBounds_toArray, List.set_cons_zero, List.set_cons_succ]
  refine wpR_call (v := ?_) (f := ?_) (args := ?_) ?_ ?_ (fun w => ?_) ?_ (fun w1 hS hK => ?_) ?_
  rotate_left 3
  · rfl
  · rfl
  · go_simp
    refine ⟨?_, ?_⟩ <;> rfl
  · kernel_rfl
  · exact turnD e w1 HB.out
  simp only [Act.put, List.setIfInBounds_toArray, List.set_cons_zero, List.set_cons_succ]
  refine wpR_made (by rfl) (by rfl) (fun w1 hS hK => ?_) (fun v hv => ?_)
  · exact made_val (v := .pointer (some ⟨w1.heap.size, 0, none⟩)) (w' := w1.alloc (.cells [.int .i64 0, .int .i64 0].toArray 117)) (by go_simp) ⟨_, hS.size, rfl⟩ (fun b hb => by cases hb; exact OwnB.laid _ _ _) (Ext.alloc _ _)
  simp only [Act.put, List.setIfInBounds_toArray, List.set_cons_zero, List.set_cons_succ]
  intro w2 E2 L2
  obtain ⟨bx, hbx, rfl⟩ := hv
  have hown := L2.1 _ rfl
  have q1 := HO1.out.ext E2
  rw [World.size_alloc] at q1
  have hl1 := q1.lt
  have hbx' : w.heap.size + 1 < bx := by have := HO1.out.lt; rw [World.size_alloc] at this; omega
  have k0 := hown.cell (j := 0) rfl
  have k1 := hown.cell (j := 1) rfl
  have f0 := hown.frozen 0
  have f1 := hown.frozen 1
  have g0 := q1.cell (j := 0) rfl
  have g1 := q1.cell (j := 1) rfl
  have y0 := q1.frozen 0
  have y1 := q1.frozen 1
  have E02 := E0.trans E2
  have hwl := E0.size
  have Q1 := Lib.hid q1
  clear hown q1 L2 HO0 HO1 E2 HDay
  go_wp2
  have z := (((Q1.out.other (b' := bx) (by omega) 0 (.int .i64 (turn2 e).1)).other (b' := bx) (by omega) 1 (.int .i64 (turn2 e).2)).set 0 (.int .i64 (turn2 e).1)).set 1 (.int .i64 (turn2 e).2)
  have z0 := z.cell (j := 0) rfl
  have z1 := z.cell (j := 1) rfl
  refine bodyPost_ret (v := .agg #[.int .i64 (turn2 e).1, .int .i64 (turn2 e).2]) ?_ rfl ⟨rfl, ext_own (ext_own (ext_own (ext_own E02 (by omega) _) (by omega) _) (by omega) _) (by omega) _⟩
  simp [results, Try.f90, go_sem, z0, z1]
def scaleOf (b : Bench) (s : Int) : Int := if checkErr b = 0 then (if 0 ≤ s ∧ s ≤ (b.scales.length : Int) - 1 then 0 else 3) else checkErr b
set_option maxRecDepth 100000 in
set_option maxHeartbeats 1000000 in
theorem checkScale_any (b : Bench) (v : Value) (s : Int) (w : World) (h : BenchRd w v b) : CallsInt 89 #[v, .int .i64 s] w (scaleOf b s) := by
  have hbr := h
  obtain ⟨m, ws, sc, t, rfl, hm, hw, hs, ht⟩ := h
  obtain ⟨P2, k2, rfl, hsl⟩ := hs.form
  have HB := Lib.hid (OwnB.laid w 27 [m, ws, .slice P2 b.scales.length k2, t, .int .i64 b.days])
  have HBr := Lib.hid hbr
  clear hbr hm hw hs ht
  obtain ⟨R, hR⟩ : ∃ R, scaleOf b s = R := ⟨_, rfl⟩
  rw [hR]
  unfold scaleOf at hR
  go_enter Try.func89, Try.ntmps89
  go_wp2_with fail
  refine (Check_any b _ _ (HBr.out.ext (Ext.alloc _ _))).mono ?_
  rintro e w1 ⟨rfl, hE⟩
  have HB1 := Lib.hid (HB.out.ext hE)
  have hE1 := (Ext.alloc w (.cells [m, ws, .slice P2 b.scales.length k2, t, .int .i64 b.days].toArray 27)).trans hE
  have d2 := HB1.out.cell (j := 2) rfl
  generalize hc : checkErr b = ce at *
  have hwr : IntKind.i64.wrap ((b.scales.length : Int) - 1) = (b.scales.length : Int) - 1 := by rw [IntKind.wrap_i64]; omega
  clear hc hE HB
  by_cases h0 : ce = 0
  · subst h0
    by_cases hin : 0 ≤ s ∧ s ≤ (b.scales.length : Int) - 1
    · rw [if_pos rfl, if_pos hin] at hR
      obtain ⟨g1, g2⟩ := hin
      go_wp2_with first | (go_at_call 77; go_in)
      all_goals (first | (exfalso; omega) | (exfalso; simp only [Bool.not_eq_true', Bool.not_eq_false', decide_eq_true_eq, decide_eq_false_iff_not] at *; omega) | skip)
      all_goals go_ret
      all_goals exact ⟨ret_int (by first | exact hR | rfl | omega), hE1⟩
    · rw [if_pos rfl, if_neg hin] at hR
      go_wp2_with first | (go_at_call 77; go_in)
      all_goals (first | (exfalso; omega) | (exfalso; simp only [Bool.not_eq_true', Bool.not_eq_false', decide_eq_true_eq, decide_eq_false_iff_not] at *; omega) | skip)
      all_goals go_ret
      all_goals exact ⟨ret_int (by first | exact hR | rfl | omega), hE1⟩
  · rw [if_neg h0] at hR
    go_wp2
    all_goals (first | (exfalso; omega) | (exfalso; simp only [Bool.not_eq_true', Bool.not_eq_false', decide_eq_true_eq, decide_eq_false_iff_not] at *; omega) | skip)
    all_goals go_ret
    all_goals exact ⟨ret_int (by first | exact hR | rfl | omega), hE1⟩
end Go.Proofs.Ytebfnjabgkhngaa
end
section
set_option linter.all false
set_option linter.unusedVariables false
set_option linter.unusedSimpArgs false
set_option linter.constructorNameAsVariable false
set_option linter.unusedVariables false
namespace Go.Proofs.Ytebfnjabgkhngaa
open Go.RowKit Go.RT
structure Ready (b : Bench) (dd N : Nat) (t0 : List (List D)) : Prop where
  hV : Valid b dd
  hN : dayIx b.masses.length dd b.scales.length 0 = N
  hch : Chain N (startFacts b dd) (blankT N) t0
  hg : Gd N t0
  hf : ∀ x ∈ resFacts b dd, FactOk N x.2
theorem Ready.n0 {b : Bench} {dd N : Nat} {t0 : List (List D)} (h : Ready b dd N t0) : 0 < N ∧ N ≤ 1000 := by
  have hN := h.hN
  have : b.scales.length * (dd + 1) ≤ 3 * 9 := Nat.mul_le_mul h.hV.s3 (by have := h.hV.dd8; omega)
  have := h.hV.m5
  unfold dayIx at hN
  omega
theorem facts_ok {b : Bench} {dd N : Nat} {t0 : List (List D)} (h : Ready b dd N t0) : ∀ f ∈ (resFacts b dd).map Prod.snd, f.i < N ∧ f.j < N := fun f hf => by
  obtain ⟨x, hx, rfl⟩ := List.mem_map.1 hf
  exact ⟨(h.hf x hx).1, (h.hf x hx).2.1⟩
theorem Ready.gd {b : Bench} {dd N : Nat} {t0 t : List (List D)} (h : Ready b dd N t0) (ht : knownT b dd N t0 = some t) : Gd N t := foldF_gd h.hg (facts_ok h) ht
theorem Ready.known {b : Bench} {dd N : Nat} {t0 : List (List D)} (h : Ready b dd N t0) (v : Value) (w : World) (hr : BenchRd w v b) : Calls Try.prog 85 #[v] w (KnownPost N (knownT b dd N t0) w) :=
  known_any b dd N v t0 w hr h.hV h.hN h.hch h.hg h.hf
theorem day_lt {b : Bench} {dd N : Nat} (hN : dayIx b.masses.length dd b.scales.length 0 = N) {s d : Nat} (hs : s < b.scales.length) (hd : d ≤ dd) : dayIx b.masses.length dd s d < N := by
  have : (s + 1) * (dd + 1) ≤ b.scales.length * (dd + 1) := Nat.mul_le_mul_right _ hs
  rw [Nat.succ_mul] at this
  unfold dayIx at *
  omega
theorem underSpans : Try.prog.underlying 55 = some (.slice 50) := by kernel_rfl
theorem infoSpan : (Try.prog.info? 50).map (fun i => (i.zero, i.size, i.bytes)) = some (some (.agg #[.int .i64 0, .int .i64 0]), 2, 16) := by kernel_rfl
theorem rd_owned {α : Type} {enc : α → List Value} {size base n : Nat} {e : TypeId} {w : World} {v : Value} {xs : List α} (h : w.ownsRow base e size v n (xs.flatMap enc)) (hs : ∀ x ∈ xs, (enc x).length = size) (hn : xs.length = n) (hl : n ≤ 4294967296) : Rd size (Flat enc) w v xs := by
  rcases h.2 with ⟨rfl, h0⟩ | ⟨g, cap, cur, rfl, hb, hg, _⟩
  · have : xs = [] := List.eq_nil_of_length_eq_zero (by omega)
    subst this
    subst hn
    exact Rd.nil _ _ _ _ _
  · exact rd_flat' hn (by omega) hs (fun j u hu => by
      have := h.cells (g := g) rfl j u hu
      by_cases h0 : j = 0
      · subst h0; simpa [Addr.add] using this
      · simpa [Addr.add, h0] using this)
theorem own_lower {w : World} {B B' n size : Nat} {T : TypeId} {v : Value} {xs : List Value} (h : w.ownsRow B T size v n xs) (hb : B' ≤ B) : w.ownsRow B' T size v n xs := by
  refine ⟨h.1, h.2.imp id ?_⟩
  rintro ⟨g, cap, cur, h1, h2, h3⟩
  exact ⟨g, cap, cur, h1, Nat.le_trans hb h2, h3⟩
theorem own_ext {w w' : World} {B : Nat} {e : TypeId} {size n : Nat} {v : Value} {xs : List Value} (h : w.ownsRow B e size v n xs) (hb : Ext w w') : w'.ownsRow B e size v n xs := by
  refine ⟨h.1, h.2.imp id ?_⟩
  rintro ⟨g, cap, cur, h1, h2, h3, h4⟩
  exact ⟨g, cap, cur, h1, h2, (hb.block g (Array.getElem?_eq_some_iff.1 h3).1).trans h3, h4⟩
theorem ext_grown {w wr w' : World} {B : Nat} {e : TypeId} {size n : Nat} {v : Value} {xs : List Value} (hE : Ext w wr) (hB : w.heap.size ≤ B) (h : wr.ownsRow B e size v n xs) (hg : wr.grownBy w' v.ownBlock) : Ext w w' :=
  Below.grown hE hg hE.size (fun k hk => by have := (h.lt k hk).1; omega)
theorem cells_new (w : World) (cs : List Value) (T : TypeId) : ∀ j u, cs[j]? = some u → (w.alloc (.cells cs.toArray T)).cell? ((⟨w.heap.size, 0, none⟩ : Addr).add j) = some u := fun j u hu => by
  have := (OwnB.laid w T cs).cell hu
  by_cases h0 : j = 0
  · subst h0; simpa [Addr.add] using this
  · simpa [Addr.add, h0] using this
def spansOf (b : Bench) (dd : Nat) (t : List (List D)) (s : Nat) : List D := (List.range (dd + 1)).map fun d => turn2 (tget t 0 (dayIx b.masses.length dd s d))
def ErrorsPost (b : Bench) (dd N : Nat) (t0 : List (List D)) (s : Int) (w : World) (e : Ending) (w' : World) : Prop :=
  (if scaleOf b s = 0 then (match knownT b dd N t0 with
      | none => e = .returned (.tuple #[.slice none 0 0, .int .i64 9])
      | some t => ∃ v', e = .returned (.tuple #[v', .int .i64 0]) ∧ w'.ownsRow w.heap.size 50 2 v' (dd + 1) ((spansOf b dd t s.toNat).flatMap encD))
    else e = .returned (.tuple #[.slice none 0 0, .int .i64 (scaleOf b s)])) ∧ Ext w w'
theorem scaleOf_zero {b : Bench} {s : Int} (h : scaleOf b s = 0) : checkErr b = 0 ∧ ∃ k : Nat, s = k ∧ k < b.scales.length := by
  unfold scaleOf at h
  split at h
  · rename_i h0
    split at h
    · rename_i h1
      exact ⟨h0, s.toNat, by omega, by omega⟩
    · omega
  · rename_i h0; exact absurd h h0
set_option maxRecDepth 100000 in
set_option maxHeartbeats 1000000 in
theorem Errors_any (b : Bench) (v : Value) (s : Int) (dd N : Nat) (t0 : List (List D)) (w : World) (h : BenchRd w v b) (hR : checkErr b = 0 → Ready b dd N t0) :
    Calls Try.prog 39 #[v, .int .i64 s] w (ErrorsPost b dd N t0 s w) := by
  have hbr := h
  obtain ⟨m, ws, sc, t, rfl, hm, hw, hs, ht⟩ := h
  obtain ⟨P0, k0, rfl, _⟩ := hm.form
  obtain ⟨P1, k1, rfl, _⟩ := hw.form
  obtain ⟨P2, k2, rfl, _⟩ := hs.form
  obtain ⟨P3, k3, rfl, _⟩ := ht.form
  have HB := Lib.hid (OwnB.laid w 27 [.slice P0 b.masses.length k0, .slice P1 b.weighings.length k1, .slice P2 b.scales.length k2, .slice P3 b.trials.length k3, .int .i64 b.days])
  have HBr := Lib.hid hbr
  clear hbr hm hw hs ht
  obtain ⟨i0, hi, hz0, hz1, hz2⟩ := info_parts infoSpan
  have HI := Lib.hid (And.intro hi (And.intro hz0 (And.intro hz1 hz2)))
  clear hi hz0 hz1 hz2
  have HR := Lib.hid hR
  clear hR
  obtain ⟨Q, hQ⟩ : ∃ Q, ErrorsPost b dd N t0 s w = Q := ⟨_, rfl⟩
  rw [hQ]
  have HQ := Lib.hid hQ
  clear hQ
  go_enter Try.func39, Try.ntmps39
  go_wp2_with fail
  refine (checkScale_any b _ s _ (HBr.out.ext (Ext.alloc _ _))).mono ?_
  rintro e w1 ⟨rfl, hE⟩
  have HB1 := Lib.hid (HB.out.ext hE)
  have hE1 := (Ext.alloc w (.cells [.slice P0 b.masses.length k0, .slice P1 b.weighings.length k1, .slice P2 b.scales.length k2, .slice P3 b.trials.length k3, .int .i64 b.days].toArray 27)).trans hE
  have d0 := HB1.out.cell (j := 0) rfl
  have d1 := HB1.out.cell (j := 1) rfl
  have d2 := HB1.out.cell (j := 2) rfl
  have d3 := HB1.out.cell (j := 3) rfl
  have d4 := HB1.out.cell (j := 4) rfl
  have hl := HB1.out.lt
  clear hE HB
  by_cases h0 : scaleOf b s = 0
  · obtain ⟨hc, k, rfl, hk⟩ := scaleOf_zero h0
    have hrd := HR.out hc
    have HRd := Lib.hid hrd
    clear HR hrd
    rw [h0]
    go_wp2_with fail
    have hE2 := hE1.trans (Ext.alloc w1 (.cells [.slice P0 b.masses.length k0, .slice P1 b.weighings.length k1, .slice P2 b.scales.length k2, .slice P3 b.trials.length k3, .int .i64 b.days].toArray 111))
    have HB2 := Lib.hid (HB1.out.ext (Ext.alloc w1 (.cells [.slice P0 b.masses.length k0, .slice P1 b.weighings.length k1, .slice P2 b.scales.length k2, .slice P3 b.trials.length k3, .int .i64 b.days].toArray 111)))
    have HC2 := Lib.hid (OwnB.laid w1 111 [.slice P0 b.masses.length k0, .slice P1 b.weighings.length k1, .slice P2 b.scales.length k2, .slice P3 b.trials.length k3, .int .i64 b.days])
    refine (HRd.out.known _ _ (HBr.out.ext hE2)).mono ?_
    rintro e w2 ⟨hp, hE3⟩
    have HB3 := Lib.hid (HB2.out.ext hE3)
    have HC3 := Lib.hid (HC2.out.ext hE3)
    have hE4 := hE2.trans hE3
    clear hE1 hE2 hE3 HB1 HB2 HC2 d0 d1 d2 d3 d4
    cases hkn : knownT b dd N t0 with
    | none =>
      rw [hkn] at hp
      subst hp
      have HKn := Lib.hid hkn
      clear hkn
      go_wp2
      show Q (.returned (.tuple #[.slice none 0 0, .int .i64 9])) w2
      rw [← HQ.out]
      unfold ErrorsPost
      rw [if_pos h0, HKn.out]
      exact ⟨rfl, hE4⟩
    | some T =>
      rw [hkn] at hp
      obtain ⟨v', rfl, hT⟩ := hp
      have HKn := Lib.hid hkn
      obtain ⟨A0, c0, hv0, _⟩ := hT.1.form
      rw [hT.2.1] at hv0
      subst hv0
      have HT := Lib.hid hT
      have HG := Lib.hid (HRd.out.gd hkn)
      have d4 := HB3.out.cell (j := 4) rfl
      have hdd := HRd.out.hV.days
      have hd8 := HRd.out.hV.dd8
      rw [hdd] at d4
      clear hkn hT
      have hwr : IntKind.i64.wrap ((dd : Int) + 1) = (dd : Int) + 1 := by rw [IntKind.wrap_i64]; omega
      go_wp2
      go_loopw [10, 30] (fun u q wr => ∃ j : Nat, q = .int .i64 j ∧ j ≤ dd + 1 ∧ Ext w2 wr ∧ wr.ownsRow w2.heap.size 50 2 u j (((List.range j).map fun d => turn2 (tget T 0 (dayIx b.masses.length dd k d))).flatMap encD)) (fun _ q _ => dd + 1 - (intOf q).toNat)
      case atStart => exact ⟨0, rfl, Nat.zero_le _, Ext.refl _, World.ownsRow_nil _ _ _ _⟩
      case round =>
        obtain ⟨j, rfl, hj, hE, hown⟩ := hrel
        have HOwn := Lib.hid hown
        clear hown d4
        by_cases hlt : j < dd + 1
        · have m0 := (HC3.out.ext hE).cell (j := 0) rfl
          have m1 := (HC3.out.ext hE).cell (j := 1) rfl
          have m2 := (HC3.out.ext hE).cell (j := 2) rfl
          have m3 := (HC3.out.ext hE).cell (j := 3) rfl
          have m4 := (HC3.out.ext hE).cell (j := 4) rfl
          rw [hdd] at m4
          go_wp2_with fail
          refine (error_any N A0 P0 c0 b.masses.length k0 dd k j _ _ _ T wr HRd.out.n0.2 (HT.out.ext' hE) HG.out.tab (day_lt HRd.out.hN hk (by omega)) (by have := HRd.out.hV.m5; omega) (by have := HRd.out.hV.s3; omega) (by omega) (by omega)).mono ?_
          rintro e w4 ⟨rfl, hE5⟩
          have HOwn4 := Lib.hid (own_ext HOwn.out hE5)
          have hE6 := hE.trans hE5
          clear HOwn hE hE5 m0 m1 m2 m3 m4
          generalize hx : turn2 (tget T 0 (dayIx b.masses.length dd k j)) = x at *
          have HX := Lib.hid hx
          clear hx
          go_wp2_with (at_builtin; refine wpList_append_own _ rfl (.tmp 33) (.tmp 39) 55 rfl w2.heap.size 50 i0 (.agg #[.int .i64 0, .int .i64 0]) 2 16 underSpans HI.out.1 HI.out.2.1 HI.out.2.2.1 HI.out.2.2.2 rfl (by decide) _ _ _ rfl (own_ext HOwn4.out (Ext.alloc _ _)) ⟨w4.heap.size, 0, none⟩ 1 1 [.int .i64 x.1, .int .i64 x.2] rfl rfl ?c1 ?c2 ?c3 ?c4 ?c5 ?_)
          case c1 => exact cells_new w4 [.int .i64 x.1, .int .i64 x.2] 50
          case c2 => intro u hu; simp at hu; rcases hu with rfl | rfl <;> rfl
          case c3 => unfold maxLen; omega
          case c4 => omega
          case c5 => have := hE6.size; simp; omega
          intro v5 w5 hown5 hgrow5 _
          have hE7 := ext_grown (hE6.trans (Ext.alloc _ _)) (Nat.le_refl _) (own_ext HOwn4.out (Ext.alloc _ _)) hgrow5
          have HOwn5 := Lib.hid hown5
          clear hown5 hgrow5
          go_wp2
          go_roundw
          case rel =>
            refine ⟨j + 1, by go_num, by omega, hE7, ?_⟩
            have := HOwn5.out
            rw [List.range_succ, List.map_append, List.flatMap_append]
            simp only [List.map_cons, List.map_nil, List.flatMap_cons, List.flatMap_nil, List.append_nil, HX.out]
            exact this
          case measure => simp [intOf]; omega
        · obtain rfl : j = dd + 1 := by omega
          go_wp2
          show Q (.returned (.tuple #[_, .int .i64 0])) wr
          rw [← HQ.out]
          unfold ErrorsPost
          rw [if_pos h0, HKn.out]
          refine ⟨⟨_, rfl, ?_⟩, hE4.trans hE⟩
          exact own_lower HOwn.out hE4.size
  · generalize hsc : scaleOf b s = ce at *
    have Hsc := Lib.hid hsc
    clear hsc
    go_wp2
    show Q (.returned (.tuple #[.slice none 0 0, .int .i64 ce])) w1
    rw [← HQ.out]
    unfold ErrorsPost
    rw [Hsc.out, if_neg h0]
    exact ⟨rfl, hE1⟩
end Go.Proofs.Ytebfnjabgkhngaa
end
section
set_option linter.all false
set_option linter.unusedVariables false
set_option linter.unusedSimpArgs false
set_option linter.constructorNameAsVariable false
set_option linter.unusedVariables false
namespace Go.Proofs.Ytebfnjabgkhngaa
open Go.RowKit Go.RT
theorem underInts : Try.prog.underlying 30 = some (.slice 3) := by kernel_rfl
theorem infoInt : (Try.prog.info? 3).map (fun i => (i.zero, i.size, i.bytes)) = some (some (.int .i64 0), 1, 8) := by kernel_rfl
def encI (x : Int) : List Value := [.int .i64 x]
theorem encI_len (xs : List Int) : (xs.flatMap encI).length = xs.length * 1 := by
  induction xs with
  | nil => rfl
  | cons x l ih => rw [List.flatMap_cons, List.length_append, ih]; simp [encI]; omega
theorem rd_cells {w : World} {A : Option Addr} {n c : Nat} {xs : List Int} (h : Rd 1 (Flat encI) w (.slice A n c) xs) (hne : xs ≠ []) : ∃ b o, A = some ⟨b, o, none⟩ ∧ ∀ j u, (xs.flatMap encI)[j]? = some u → w.cell? ((⟨b, o, none⟩ : Addr).add j) = some u := by
  have h0 : 0 < xs.length := List.length_pos_iff.2 hne
  obtain ⟨b, o, rfl, _⟩ := h.at_ 0 h0
  refine ⟨b, o, rfl, fun j u hu => ?_⟩
  have hj : j < xs.length := by have := (List.getElem?_eq_some_iff.1 hu).1; rw [encI_len] at this; omega
  obtain ⟨b', o', e, hc⟩ := h.at_ j hj
  cases e
  have h1 := flat_get (enc := encI) (size := 1) (fun _ _ => rfl) j xs[j] (List.getElem?_eq_getElem hj) 0 (.int .i64 xs[j]) rfl
  simp only [Nat.mul_one, Nat.add_zero] at h1
  rw [h1] at hu
  have h2 := hc 0 u (by rw [← hu]; rfl)
  simp only [Nat.mul_one, Nat.add_zero] at h2
  by_cases hj0 : j = 0
  · subst hj0; simpa [Addr.add] using h2
  · simpa [Addr.add, hj0] using h2
set_option maxRecDepth 100000 in
set_option maxHeartbeats 1000000 in
theorem Clone_any (v : Value) (xs : List Int) (w : World) (h : Rd 1 (Flat encI) w v xs) (hn : xs.length ≤ 1000000) (hv : xs = [] → v = .slice none 0 0) :
    Calls Try.prog 67 #[v] w fun e w' => ∃ v', e = .returned v' ∧ w'.ownsRow w.heap.size 3 1 v' xs.length (xs.flatMap encI) ∧ Ext w w' := by
  have hnil := fun (w : World) a n c => Lib.run_eql_slice_nil (P := Try.prog) w 30 3 a n c 0 0 underInts
  by_cases h0 : xs = []
  · obtain rfl := hv h0
    subst h0
    go_enter Try.func67, Try.ntmps67
    go_wp2
    go_ret
    exact ⟨_, rfl, World.ownsRow_nil _ _ _ _, Ext.refl _⟩
  · obtain ⟨A, c, rfl, _⟩ := h.form
    obtain ⟨b, o, rfl, hc⟩ := rd_cells h h0
    obtain ⟨i0, hi, hz0, hz1, hz2⟩ := info_parts infoInt
    have HC := Lib.hid hc
    have HI := Lib.hid (And.intro hi (And.intro hz0 (And.intro hz1 hz2)))
    clear hc hi hz0 hz1 hz2 h
    have hl := encI_len xs
    go_enter Try.func67, Try.ntmps67
    go_wp2_with (at_builtin; refine wpList_append_own _ rfl (.tmp 5) (.tmp 6) 30 rfl w.heap.size 3 i0 (.int .i64 0) 1 8 underInts HI.out.1 HI.out.2.1 HI.out.2.2.1 HI.out.2.2.2 rfl (by decide) _ _ _ rfl (World.ownsRow_made w #[] 0 (Nat.le_refl _) (by decide) rfl) ⟨b, o, none⟩ xs.length c (xs.flatMap encI) rfl hl ?c1 ?c2 ?c3 ?c4 ?c5 ?_)
    case c1 => exact fun j u hu => (Ext.alloc _ _).cell (HC.out j u hu)
    case c2 =>
      intro u hu
      obtain ⟨x, _, hx⟩ := List.mem_flatMap.1 hu
      simp only [encI, List.mem_singleton] at hx
      subst hx
      rfl
    case c3 => unfold maxLen; omega
    case c4 => omega
    case c5 => simp
    intro v5 w5 hown5 hgrow5 _
    have hE7 := ext_grown (Ext.alloc w _) (Nat.le_refl _) (World.ownsRow_made (e := 3) (size := 1) w #[] 0 (Nat.le_refl _) (by decide) rfl) hgrow5
    have HOwn5 := Lib.hid hown5
    clear hown5 hgrow5
    go_wp2
    go_ret
    refine ⟨_, rfl, ?_, hE7⟩
    have := HOwn5.out
    simpa using this
end Go.Proofs.Ytebfnjabgkhngaa
end
section
set_option linter.all false
set_option linter.unusedVariables false
set_option linter.unusedSimpArgs false
set_option linter.constructorNameAsVariable false
set_option linter.unusedVariables false
namespace Go.Proofs.Ytebfnjabgkhngaa
open Go.RowKit Go.RT
def goS (n : Nat) (fs : List Fact) (sub : List (List D) → List Int → Nat → Option (List Int)) (more : Nat) (t : List (List D)) (chosen : List Int) : Nat → Nat → Option (List Int)
  | 0, _ => none
  | r + 1, i => match fs[i]? with
    | none => none
    | some f => match withT n t f.i f.j f.d with
      | none => if more = 1 then some (chosen ++ [(i : Int)]) else goS n fs sub more t chosen r (i + 1)
      | some u => if more = 1 then goS n fs sub more t chosen r (i + 1) else match sub u (chosen ++ [(i : Int)]) (i + 1) with
        | some out => some out
        | none => goS n fs sub more t chosen r (i + 1)
def searchS (n : Nat) (fs : List Fact) : Nat → List (List D) → List Int → Nat → Option (List Int)
  | 0, _, _, _ => none
  | m + 1, t, chosen, i => goS n fs (searchS n fs m) (m + 1) t chosen (fs.length + 1 - (m + 1) - i) i
def oneS (n : Nat) (sub : List (List D) → List Int → Nat → Option (List Int)) (more : Nat) (t : List (List D)) (chosen : List Int) (i : Nat) (f : Fact) (next : Option (List Int)) : Option (List Int) :=
  match withT n t f.i f.j f.d with
  | none => if more = 1 then some (chosen ++ [(i : Int)]) else next
  | some u => if more = 1 then next else match sub u (chosen ++ [(i : Int)]) (i + 1) with
    | some out => some out
    | none => next
theorem goS_step (n : Nat) (fs : List Fact) (sub : List (List D) → List Int → Nat → Option (List Int)) (more : Nat) (t : List (List D)) (chosen : List Int) (r i : Nat) (h : i < fs.length) :
    goS n fs sub more t chosen (r + 1) i = oneS n sub more t chosen i fs[i] (goS n fs sub more t chosen r (i + 1)) := by
  unfold oneS
  rw [goS, List.getElem?_eq_getElem h]
def encFc (f : Fact) : List Value := [.int .i64 f.i, .int .i64 f.j, .int .i64 f.d.1, .int .i64 f.d.2]
structure Ctx (N Bf Bs : Nat) (F : Option Addr) (c : Nat) (fs : List Fact) (w : World) : Prop where
  facts : OwnB w Bf 112 [.slice F fs.length c]
  self : OwnB w Bs 120 [.func (.func 66) #[] #[.pointer (some ⟨Bf, 0, none⟩), .pointer (some ⟨Bs, 0, none⟩)]]
  rd : Rd 4 (Flat encFc) w (.slice F fs.length c) fs
  ok : ∀ f ∈ fs, FactOk N f
  few : fs.length ≤ 1000
theorem Ctx.ext {N Bf Bs : Nat} {F : Option Addr} {c : Nat} {fs : List Fact} {w w' : World} (h : Ctx N Bf Bs F c fs w) (he : Ext w w') : Ctx N Bf Bs F c fs w' :=
  ⟨h.facts.ext he, h.self.ext he, h.rd.ext (Flat.keeps _) he, h.ok, h.few⟩
def SearchPost (o : Option (List Int)) (w : World) (e : Ending) (w' : World) : Prop :=
  (match o with
    | none => e = .returned (.slice none 0 0)
    | some l => ∃ a n c, e = .returned (.slice (some a) n c) ∧ w'.ownsRow w.heap.size 3 1 (.slice (some a) n c) l.length (l.flatMap encI)) ∧ Ext w w'
def SearchOk (N Bf Bs : Nat) (F : Option Addr) (c : Nat) (fs : List Fact) (m : Nat) : Prop :=
  ∀ (t : List (List D)) (chosen : List Int) (i : Nat) (v vc : Value) (w : World), Ctx N Bf Bs F c fs w → TabRd N w v t → Gd N t → Rd 1 (Flat encI) w vc chosen → (chosen = [] → vc = .slice none 0 0) → chosen.length + m ≤ 1000 → i ≤ fs.length + 1 →
    Calls Try.prog 66 #[v, vc, .int .i64 i, .int .i64 m, .pointer (some ⟨Bf, 0, none⟩), .pointer (some ⟨Bs, 0, none⟩)] w (SearchPost (searchS N fs m t chosen i) w)
set_option maxRecDepth 100000 in
set_option maxHeartbeats 1000000 in
theorem search_step (N Bf Bs : Nat) (F : Option Addr) (c : Nat) (fs : List Fact) (m : Nat) (hN : N ≤ 1000) (hsub : m = 0 ∨ SearchOk N Bf Bs F c fs m) : SearchOk N Bf Bs F c fs (m + 1) := by
  intro t chosen i0 v vc w hx ht hg hc hcv hcl hi0
  have HSub := Lib.hid hsub
  have HX := Lib.hid hx
  have HT := Lib.hid ht
  have HG := Lib.hid hg
  have HC := Lib.hid hc
  have HCv := Lib.hid hcv
  have hfew := hx.few
  obtain ⟨ii, hi, hz0, hz1, hz2⟩ := info_parts infoInt
  have HI := Lib.hid (And.intro hi (And.intro hz0 (And.intro hz1 hz2)))
  clear hi hz0 hz1 hz2 hsub hx ht hg hc hcv
  have hnil := fun (w : World) a n c => run_neq_slice_nil_any (P := Try.prog) w 30 3 a n c 0 0 underInts
  obtain ⟨M, hM⟩ : ∃ M, m + 1 = M := ⟨_, rfl⟩
  obtain ⟨R, hR⟩ : ∃ R, searchS N fs (m + 1) t chosen i0 = R := ⟨_, rfl⟩
  have hR' : goS N fs (searchS N fs m) M t chosen (fs.length + 1 - M - i0) i0 = R := by rw [← hM, ← hR]; rfl
  have HR := Lib.hid hR'
  rw [hR, hM]
  rw [hM] at hcl
  have HM := Lib.hid hM
  have hM1 : 1 ≤ M := by omega
  clear hR hR' hM
  have l0 := HX.out.facts.cell (j := 0) rfl
  go_enter Try.func66, Try.ntmps66
  go_wp2
  go_loopw [11] (fun q wr => ∃ i : Nat, q = .int .i64 i ∧ i ≤ fs.length + 1 ∧ Ext w wr ∧ goS N fs (searchS N fs m) M t chosen (fs.length + 1 - M - i) i = R) (fun q _ => fs.length + 2 - (intOf q).toNat)
  case atStart => exact ⟨i0, rfl, hi0, Ext.refl _, HR.out⟩
  case round =>
    clear l0 HR
    obtain ⟨i, rfl, hi, hE, hR⟩ := hrel
    have HR := Lib.hid hR
    clear hR
    have X1 := Lib.hid (HX.out.ext hE)
    have l0 := X1.out.facts.cell (j := 0) rfl
    have hwr : IntKind.i64.wrap ((i : Int) + (M : Int)) = (i : Int) + (M : Int) := by rw [IntKind.wrap_i64]; omega
    have hwr1 : IntKind.i64.wrap ((i : Int) + 1) = (i : Int) + 1 := by rw [IntKind.wrap_i64]; omega
    by_cases hlt : i + M ≤ fs.length
    · have hlt' : i < fs.length := by omega
      obtain ⟨bb, oo, rfl, hcell⟩ := X1.out.rd.at_ i hlt'
      have m0 := hcell 0 _ rfl
      have m1 := hcell 1 _ rfl
      have m2 := hcell 2 _ rfl
      have m3 := hcell 3 _ rfl
      simp only [Nat.add_zero] at m0 m1 m2 m3
      have hfok := X1.out.ok fs[i] (List.getElem_mem hlt')
      have hstep := HR.out
      rw [show fs.length + 1 - M - i = (fs.length + 1 - M - (i + 1)) + 1 by omega, goS_step N fs _ M t chosen _ i hlt'] at hstep
      clear hcell HR
      generalize fs[i] = f at *
      obtain ⟨fi, fj, fd, fd2⟩ := f
      simp only at m0 m1 m2 m3 hfok
      have HFok := Lib.hid hfok
      have HStep := Lib.hid hstep
      clear hstep hfok
      go_wp2_with fail
      refine (Clone_any vc chosen wr (HC.out.ext (Flat.keeps _) hE) (by omega) HCv.out).mono ?_
      rintro e w1 ⟨v1, rfl, hown, hE1⟩
      have HOwn := Lib.hid hown
      have n0 := X1.out.facts.ext hE1 |>.cell (j := 0) rfl
      have HE1 := Lib.hid hE1
      have hsz := hE1.size
      clear hown hE1 l0
      go_wp2_with (at_builtin; refine wpList_append_own _ rfl (.tmp 26) (.tmp 28) 30 rfl wr.heap.size 3 ii (.int .i64 0) 1 8 underInts HI.out.1 HI.out.2.1 HI.out.2.2.1 HI.out.2.2.2 rfl (by decide) _ _ _ rfl (own_ext HOwn.out (Ext.alloc _ _)) ⟨w1.heap.size, 0, none⟩ 1 1 [.int .i64 i] rfl rfl ?c1 ?c2 ?c3 ?c4 ?c5 ?_)
      case c1 => exact cells_new w1 [.int .i64 i] 3
      case c2 => intro u hu; simp at hu; subst hu; rfl
      case c3 => unfold maxLen; omega
      case c4 => omega
      case c5 => simp; omega
      intro v2 w2 hown2 hgrow2 hnil2
      have hE2 := ext_grown (HE1.out.trans (Ext.alloc _ _)) (Nat.le_refl _) (own_ext HOwn.out (Ext.alloc _ _)) hgrow2
      have HE2 := Lib.hid hE2
      have HOwn2 := Lib.hid hown2
      have k0 := (HX.out.ext (hE.trans hE2)).facts.cell (j := 0) rfl
      have hE02 := Lib.hid (hE.trans hE2)
      have p0 := hE2.cell m0
      have p1 := hE2.cell m1
      have p2 := hE2.cell m2
      have p3 := hE2.cell m3
      clear m0 m1 m2 m3
      clear hown2 hgrow2 n0
      go_wp2_with fail
      refine (with_any N v t fi fj fd fd2 w2 hN HFok.out.1 HFok.out.2.1 (HT.out.ext' hE02.out) HG.out.tab HFok.out.2.2.1 HFok.out.2.2.2.1 HFok.out.2.2.2.2.1 HFok.out.2.2.2.2.2).mono ?_
      rintro e w3 ⟨hp, hE3⟩
      have hE03 := hE02.out.trans hE3
      have hrow3 := own_ext HOwn2.out hE3
      obtain ⟨g2, c2, hg2⟩ : ∃ g2 c2, v2 = .slice (some ⟨g2, 0, none⟩) (chosen.length + 1) c2 := by
        rcases HOwn2.out.2 with ⟨_, h0⟩ | ⟨g, cap, cur, h0, _⟩
        · omega
        · exact ⟨g, cap, h0⟩
      subst hg2
      have hrd3 : Rd 1 (Flat encI) w3 (.slice (some ⟨g2, 0, none⟩) (chosen.length + 1) c2) (chosen ++ [(i : Int)]) :=
        rd_owned (xs := chosen ++ [(i : Int)]) (by rw [List.flatMap_append]; exact hrow3) (fun _ _ => rfl) (by simp) (by omega)
      have HRd3 := Lib.hid hrd3
      have HRow3 := Lib.hid (show w3.ownsRow w.heap.size 3 1 (.slice (some ⟨g2, 0, none⟩) (chosen.length + 1) c2) (chosen ++ [(i : Int)]).length ((chosen ++ [(i : Int)]).flatMap encI) by
        rw [List.length_append, List.flatMap_append]; exact own_lower hrow3 hE.size)
      have HE03 := Lib.hid hE03
      clear hrd3 hrow3 HOwn2 HOwn hE2 HE2 HE1 hE3 hE03 hE02 k0 p0 p1 p2 p3
      have hst := HStep.out
      unfold oneS at hst
      simp only at hst
      cases hwt : withT N t fi fj (fd, fd2) with
      | none =>
        rw [hwt] at hp hst
        subst hp
        simp only at hst
        by_cases hM1' : M = 1
        · subst hM1'
          rw [if_pos rfl] at hst
          go_wp2
          go_ret
          rw [← hst]
          exact ⟨⟨_, _, _, rfl, HRow3.out⟩, HE03.out⟩
        · rw [if_neg hM1'] at hst
          have HSt := Lib.hid hst
          clear hst
          go_wp2
          go_roundw
          case rel => exact ⟨i + 1, by go_num, by omega, HE03.out, HSt.out⟩
          case measure => simp [intOf]; omega
      | some u =>
        rw [hwt] at hp hst
        obtain ⟨v', rfl, hT'⟩ := hp
        have hgu := HG.out.withT HFok.out.1 HFok.out.2.1 hwt
        simp only at hst
        obtain ⟨A', c', hv', _⟩ := (hT'.rd (by omega)).1.form
        rw [(hT'.rd (by omega)).2.1] at hv'
        subst hv'
        by_cases hM1' : M = 1
        · rw [if_pos hM1'] at hst
          have HSt := Lib.hid hst
          have hb1 : ((M : Int) == 1) = true := by subst hM1'; rfl
          have hb2 : ((M : Int) = 1) = True := by subst hM1'; simp
          have hb3 : (1 < (M : Int)) = False := by subst hM1'; simp
          clear hst hT' hgu hwt hM1'
          go_wp2
          go_roundw
          case rel => exact ⟨i + 1, by go_num, by omega, HE03.out, HSt.out⟩
          case measure => simp [intOf]; omega
        · rw [if_neg hM1'] at hst
          have hok := HSub.out.resolve_left (by have := HM.out; omega)
          have HOk := Lib.hid hok
          have HT' := Lib.hid hT'
          have HGu := Lib.hid hgu
          have HSt := Lib.hid hst
          have s0 := (HX.out.ext HE03.out).self.cell (j := 0) rfl
          have hwr2 : IntKind.i64.wrap ((M : Int) - 1) = (m : Int) := by have := HM.out; rw [IntKind.wrap_i64]; omega
          clear hst hT' hgu hwt hok
          go_wp2_with fail
          refine (HOk.out u (chosen ++ [(i : Int)]) (i + 1) _ _ w3 (HX.out.ext HE03.out) (HT'.out.rd (by omega)) HGu.out HRd3.out (fun h => by simp at h) (by have := HM.out; simp; omega) (by omega)).mono ?_
          rintro e w4 ⟨hp4, hE4⟩
          have hE04 := Lib.hid (HE03.out.trans hE4)
          have HE03s := HE03.out.size
          clear HE03 s0 HT' HRd3 hE4
          cases hsr : searchS N fs m u (chosen ++ [(i : Int)]) (i + 1) with
          | none =>
            rw [hsr] at hp4
            have hst := HSt.out
            rw [hsr] at hst
            simp only at hst hp4
            subst hp4
            have HSt := Lib.hid hst
            clear hst hsr
            go_wp2
            go_roundw
            case rel => exact ⟨i + 1, by go_num, by omega, hE04.out, HSt.out⟩
            case measure => simp [intOf]; omega
          | some out =>
            rw [hsr] at hp4
            have hst := HSt.out
            rw [hsr] at hst
            simp only at hst hp4
            obtain ⟨a4, n4, c4, rfl, hrd4⟩ := hp4
            have HRd4 := Lib.hid (own_lower hrd4 (B' := w.heap.size) HE03s)
            clear hsr hrd4
            go_wp2
            go_ret
            rw [← hst]
            exact ⟨⟨_, _, _, rfl, HRd4.out⟩, hE04.out⟩
    · go_wp2
      go_ret
      have hr := HR.out
      rw [show fs.length + 1 - M - i = 0 by omega] at hr
      rw [← hr]
      exact ⟨rfl, hE⟩
end Go.Proofs.Ytebfnjabgkhngaa
end
section
set_option linter.all false
set_option linter.unusedVariables false
set_option linter.unusedSimpArgs false
set_option linter.constructorNameAsVariable false
set_option linter.unusedVariables false
namespace Go.Proofs.Ytebfnjabgkhngaa
open Go.RowKit Go.RT
theorem made_call {P : Program} {Eff : Nat → World → World → Prop} {Q : Exit → Act → World → Prop} {k : Nat} {s : Sp} {o : Oper} {a : Act} {w : World} {f : FuncId} {args : Array Value}
    (hr : (execOp a.eval o).run P w = .ok (.enter f args) w) (hx : Calls P f args w (fun e w' => ∃ v, e = .returned v ∧ s.rng v ∧ s.fact (opvals o a) v w' ∧ Eff k w w')) : Made P Eff Q k s o a w := by
  unfold Made Oper.wp
  rw [hr]
  refine hx.mono ?_
  rintro e w' ⟨v, rfl, h⟩
  exact ⟨v, rfl, h⟩
theorem search_ok (N Bf Bs : Nat) (F : Option Addr) (c : Nat) (fs : List Fact) (hN : N ≤ 1000) : ∀ m, SearchOk N Bf Bs F c fs (m + 1)
  | 0 => search_step N Bf Bs F c fs 0 hN (.inl rfl)
  | m + 1 => search_step N Bf Bs F c fs (m + 1) hN (.inr (search_ok N Bf Bs F c fs hN m))
end Go.Proofs.Ytebfnjabgkhngaa
end
section
set_option linter.all false
set_option linter.unusedVariables false
set_option linter.unusedSimpArgs false
set_option linter.constructorNameAsVariable false
set_option linter.unusedVariables false
namespace Go.Proofs.Ytebfnjabgkhngaa
open Go.RowKit Go.RT
attribute [local go_sem] Oper.semAt_some
def clashGo (N : Nat) (fs : List Fact) (t0 : List (List D)) : Nat → Nat → Option (List Int)
  | 0, _ => none
  | r + 1, n => match searchS N fs n t0 [] 0 with
    | some l => some l
    | none => clashGo N fs t0 r (n + 1)
def clashS (N : Nat) (fs : List Fact) (t0 : List (List D)) : Option (List Int) := clashGo N fs t0 fs.length 1
def ClashPost (b : Bench) (dd N : Nat) (t0 : List (List D)) (w : World) (e : Ending) (w' : World) : Prop :=
  (if checkErr b = 0 then (match clashS N ((resFacts b dd).map Prod.snd) t0 with
      | none => e = .returned (.tuple #[.slice none 0 0, .int .i64 3])
      | some l => ∃ a n c, e = .returned (.tuple #[.slice (some a) n c, .int .i64 0]) ∧ w'.ownsRow w.heap.size 3 1 (.slice (some a) n c) l.length (l.flatMap encI))
    else e = .returned (.tuple #[.slice none 0 0, .int .i64 (checkErr b)])) ∧ Ext w w'
theorem underFacts : Try.prog.underlying 112 = some (.slice 119) := by kernel_rfl
theorem infoFact : (Try.prog.info? 119).map (fun i => (i.zero, i.size, i.bytes)) = some (some (.agg #[.int .i64 0, .int .i64 0, .int .i64 0, .int .i64 0]), 4, 32) := by kernel_rfl
theorem own_grown {w w' : World} {B : Nat} {e : TypeId} {size n : Nat} {v : Value} {xs : List Value} {row : Option Nat} (h : w.ownsRow B e size v n xs) (hg : w.grownBy w' row) (hr : ∀ r, row = some r → ∃ o : Obj, w.heap[r]? = some o ∧ o.isCells = false) : w'.ownsRow B e size v n xs := by
  refine ⟨h.1, h.2.imp id ?_⟩
  rintro ⟨g, cap, cur, h1, h2, h3, h4⟩
  exact ⟨g, cap, cur, h1, h2, (grownBy_keeps_cells hg hr h3 rfl).trans h3, h4⟩
theorem rd_grown {α : Type} {size : Nat} {enc : α → List Value} {w w' : World} {v : Value} {xs : List α} {row : Option Nat} (h : Rd size (Flat enc) w v xs) (hg : w.grownBy w' row) (hr : ∀ r, row = some r → ∃ o : Obj, w.heap[r]? = some o ∧ o.isCells = false) : Rd size (Flat enc) w' v xs := by
  obtain ⟨A, c, h1, h2, h3⟩ := h
  refine ⟨A, c, h1, h2, fun i x hx => ?_⟩
  obtain ⟨b, o, cs, h4, h5, h6, h7⟩ := h3 i x hx
  exact ⟨b, o, cs, h4, h5, h6, fun j u hu => cell_kept (h7 j u hu) hg hr⟩
theorem keeps_row {w w' : World} {B : Nat} {e : TypeId} {size n : Nat} {v : Value} {xs : List Value} (h : w.ownsRow B e size v n xs) (hg : w.grownBy w' v.ownBlock) : KeepsOthers w w' :=
  KeepsOthers.of_grownBy hg fun j o ej hj => by
    rcases h.2 with ⟨rfl, _⟩ | ⟨g, cap, cur, rfl, _, hgb, _⟩
    · simp [Value.ownBlock] at ej
    · obtain rfl : g = j := by simpa [Value.ownBlock] using ej
      rw [hgb] at hj; cases hj; rfl
theorem block_row {w w' : World} {B b : Nat} {e : TypeId} {size n : Nat} {v : Value} {xs : List Value} (h : w.ownsRow B e size v n xs) (hg : w.grownBy w' v.ownBlock) (hb : b < B) (hl : b < w.heap.size) : w'.heap[b]? = w.heap[b]? :=
  hg.block b hl (fun e => by have := (h.lt b e.symm).1; omega)
theorem below_row {n₀ : Nat} {w w' : World} {B : Nat} {e : TypeId} {size n : Nat} {v : Value} {xs : List Value} (h : w.ownsRow B e size v n xs) (hg : w.grownBy w' v.ownBlock) (hb : n₀ ≤ B) (hl : n₀ ≤ w.heap.size) : Below n₀ w w' :=
  (Below.refl n₀ w).grown hg hl (fun k hk => by have := (h.lt k hk).1; omega)
def tabSp (N : Nat) (t : List (List D)) : Sp := ⟨fun v => ∃ A c, v = .slice A N c, ⟨_, none, 0, rfl⟩, fun _ v w => TabRd N w v t⟩
theorem tabSp_stable (N : Nat) (t : List (List D)) : (tabSp N t).stable := fun xs v w w' h he => h.ext' he
def rowSp (B : Nat) (l : List Int) : Sp := ⟨fun v => ∃ a n c, v = .slice (some a) n c, ⟨_, ⟨0, 0, none⟩, 0, 0, rfl⟩, fun _ v w => w.ownsRow B 3 1 v l.length (l.flatMap encI)⟩
theorem rowSp_stable (B : Nat) (l : List Int) : (rowSp B l).stable := fun xs v w w' h he => own_ext h he
theorem start_made {b : Bench} {dd N : Nat} {t0 : List (List D)} (h : Ready b dd N t0) (v : Value) (w : World) (hr : BenchRd w v b) :
    Calls Try.prog 69 #[v] w fun e w' => ∃ v', e = .returned v' ∧ (∃ A c, v' = .slice A N c) ∧ TabRd N w' v' t0 ∧ Ext w w' :=
  (start_any b dd N v t0 w hr h.hV.m5 h.hV.s3 h.hV.days h.hV.dd8 h.hN h.hch).mono fun e w' ⟨v', h1, h2, h3⟩ => by
    obtain ⟨A, c, e1, _⟩ := h2.1.form
    rw [h2.2.1] at e1
    exact ⟨v', h1, ⟨A, c, e1⟩, h2, h3⟩
theorem search_nil {N Bf Bs : Nat} {F : Option Addr} {c : Nat} {fs : List Fact} {t : List (List D)} {m : Nat} (hN : N ≤ 1000) (hm : m + 1 ≤ 1000) {v : Value} {w : World} (hx : Ctx N Bf Bs F c fs w) (ht : TabRd N w v t) (hg : Gd N t) :
    Calls Try.prog 66 #[v, .slice none 0 0, .int .i64 0, .int .i64 ((m + 1 : Nat) : Int), .pointer (some ⟨Bf, 0, none⟩), .pointer (some ⟨Bs, 0, none⟩)] w (SearchPost (searchS N fs (m + 1) t [] 0) w) :=
  search_ok N Bf Bs F c fs hN m t [] 0 v (.slice none 0 0) w hx ht hg (Rd.nil _ _ _ _ _) (fun _ => rfl) (by simpa using hm) (by omega)
theorem search_none {N Bf Bs : Nat} {F : Option Addr} {c : Nat} {fs : List Fact} {t : List (List D)} {m : Nat} (hs : searchS N fs (m + 1) t [] 0 = none) (hN : N ≤ 1000) (hm : m + 1 ≤ 1000) {v : Value} {w : World} (hx : Ctx N Bf Bs F c fs w) (ht : TabRd N w v t) (hg : Gd N t) :
    CallsVal 66 #[v, .slice none 0 0, .int .i64 0, .int .i64 ((m + 1 : Nat) : Int), .pointer (some ⟨Bf, 0, none⟩), .pointer (some ⟨Bs, 0, none⟩)] w (.slice none 0 0) := by
  have := search_nil hN hm hx ht hg
  rw [hs] at this
  exact this
theorem search_some {N Bf Bs : Nat} {F : Option Addr} {c : Nat} {fs : List Fact} {t : List (List D)} {m : Nat} {l : List Int} (hs : searchS N fs (m + 1) t [] 0 = some l) (hN : N ≤ 1000) (hm : m + 1 ≤ 1000) {v : Value} {w : World} (hx : Ctx N Bf Bs F c fs w) (ht : TabRd N w v t) (hg : Gd N t) :
    Calls Try.prog 66 #[v, .slice none 0 0, .int .i64 0, .int .i64 ((m + 1 : Nat) : Int), .pointer (some ⟨Bf, 0, none⟩), .pointer (some ⟨Bs, 0, none⟩)] w fun e w' => ∃ v', e = .returned v' ∧ (∃ a n c, v' = .slice (some a) n c) ∧ w'.ownsRow w.heap.size 3 1 v' l.length (l.flatMap encI) ∧ Ext w w' := by
  have := search_nil hN hm hx ht hg
  rw [hs] at this
  refine this.mono ?_
  rintro e w' ⟨⟨a, n, c, rfl, h⟩, hE⟩
  exact ⟨_, rfl, ⟨_, _, _, rfl⟩, h, hE⟩
set_option maxRecDepth 100000 in
set_option maxHeartbeats 2000000 in
theorem Clash_any (b : Bench) (v : Value) (dd N : Nat) (t0 : List (List D)) (w : World) (h : BenchRd w v b) (hR : checkErr b = 0 → Ready b dd N t0) :
    Calls Try.prog 19 #[v] w (ClashPost b dd N t0 w) := by
  have hbr := h
  obtain ⟨m, ws, sc, t, rfl, hm, hw, hs, ht⟩ := h
  obtain ⟨P0, k0, rfl, _⟩ := hm.form
  obtain ⟨P1, k1, rfl, _⟩ := hw.form
  obtain ⟨P2, k2, rfl, _⟩ := hs.form
  obtain ⟨P3, k3, rfl, _⟩ := ht.form
  have HB := Lib.hid (OwnB.laid w 27 [.slice P0 b.masses.length k0, .slice P1 b.weighings.length k1, .slice P2 b.scales.length k2, .slice P3 b.trials.length k3, .int .i64 b.days])
  have HBr := Lib.hid hbr
  have HM := Lib.hid hm
  have HW := Lib.hid hw
  have HS := Lib.hid hs
  have HT := Lib.hid ht
  clear hbr hm hw hs ht
  obtain ⟨i0, hi, hz0, hz1, hz2⟩ := info_parts infoFact
  have HI := Lib.hid (And.intro hi (And.intro hz0 (And.intro hz1 hz2)))
  clear hi hz0 hz1 hz2
  have HR := Lib.hid hR
  clear hR
  obtain ⟨Q, hQ⟩ : ∃ Q, ClashPost b dd N t0 w = Q := ⟨_, rfl⟩
  rw [hQ]
  have HQ := Lib.hid hQ
  clear hQ
  refine (callsIn_wide (n := 3)).1 (callsIn_of_wp_marks Try.func19 rfl trivial ?_ rfl)
  simp only [Try.ntmps19, List.size_toArray, List.length_cons, List.length_nil, Nat.reduceAdd, Nat.reduceSub, Array.replicate_succ, Array.replicate_zero, List.push_toArray, List.append_toArray, List.nil_append, List.cons_append]
  gi_wp2_with fail
  refine ⟨trivial, ?_⟩
  refine (callsIn_wide.2 (Check_any b _ _ (HBr.out.ext (Ext.alloc _ _)))).mono ?_
  rintro e w1 ⟨rfl, hE⟩
  have HB1 := Lib.hid (HB.out.ext hE)
  have hE1 := (Ext.alloc w (.cells [.slice P0 b.masses.length k0, .slice P1 b.weighings.length k1, .slice P2 b.scales.length k2, .slice P3 b.trials.length k3, .int .i64 b.days].toArray 27)).trans hE
  have d0 := HB1.out.cell (j := 0) rfl
  have d1 := HB1.out.cell (j := 1) rfl
  have d2 := HB1.out.cell (j := 2) rfl
  have d3 := HB1.out.cell (j := 3) rfl
  have d4 := HB1.out.cell (j := 4) rfl
  have hl := HB1.out.lt
  clear hE HB
  generalize hce : checkErr b = ce at *
  by_cases h0 : ce = 0
  · subst h0
    have HRd := Lib.hid (HR.out rfl)
    clear HR
    gi_wp2_with fail
    refine ⟨trivial, ?_⟩
    have q1 := (OwnB.laid w1 111 [.slice P0 b.masses.length k0, .slice P1 b.weighings.length k1, .slice P2 b.scales.length k2, .slice P3 b.trials.length k3, .int .i64 b.days]).ext (Ext.alloc _ (.cells [.slice none 0 0].toArray 112))
    have q2 := OwnB.laid (w1.alloc (.cells [.slice P0 b.masses.length k0, .slice P1 b.weighings.length k1, .slice P2 b.scales.length k2, .slice P3 b.trials.length k3, .int .i64 b.days].toArray 111)) 112 [.slice none 0 0]
    rw [World.size_alloc] at q2
    have hE2 := hE1.trans ((Ext.alloc w1 (.cells [.slice P0 b.masses.length k0, .slice P1 b.weighings.length k1, .slice P2 b.scales.length k2, .slice P3 b.trials.length k3, .int .i64 b.days].toArray 111)).trans (Ext.alloc _ (.cells [.slice none 0 0].toArray 112)))
    refine (callsIn_wide.2 (results_any b _ _ _ _ _ _ rfl)).mono ?_
    rintro e w2 ⟨B, hB, rfl, hOB, hE3⟩
    have Q1 := Lib.hid (q1.ext hE3)
    have Q2 := Lib.hid (q2.ext hE3)
    have hE4 := hE2.trans hE3
    have hBg : w1.heap.size + 1 < B := by simp at hB; omega
    have HOB := Lib.hid hOB
    have hw2 := Q2.out.lt
    have hBl := hOB.lt
    clear hE1 hE2 hE3 q1 q2 d0 d1 d2 d3 d4 hOB hB
    obtain ⟨all, hall⟩ := list_rf _ HRd.out.hf
    have hwn : w.heap.size ≤ w2.heap.size := hE4.size
    have hlen : all.length ≤ 12 := by
      have := congrArg List.length hall
      rw [List.length_map] at this
      rw [this]
      have h6 := HRd.out.hV.w6
      have h6' := HRd.out.hV.t6
      simp only [resFacts, List.length_append, wFrom_len, tFrom_len]
      omega
    have HSeq := results_stops b dd N B P0 P1 P2 P3 k0 k1 k2 k3 w w2 hE4 HRd.out.hV HRd.out.hN 2 (by have := HOB.out; rw [HRd.out.hV.days] at this; exact this) HM.out HW.out HT.out all hall
    have HAll := Lib.hid hall
    clear hall
    gi_wp2_with fail
    refine wpIn_rangeFunc_ownH rfl (by omega) (gf := 115) (lb := #[.pointer (some ⟨B, 0, none⟩)]) rfl trivial (enters_of Try.func115 (by kernel_rfl) rfl)
      HSeq kpB_t (kpB_b hwn hBl) (Below.refl _ _) (fun _ => rfl)
      (fun pre W => ((∃ u, OwnB W (w1.heap.size + 1) 112 [u] ∧ W.ownsRow w2.heap.size 119 4 u pre.length ((facts1 pre).flatMap encFc)) ∧ OwnB W w1.heap.size 111 [.slice P0 b.masses.length k0, .slice P1 b.weighings.length k1, .slice P2 b.scales.length k2, .slice P3 b.trials.length k3, .int .i64 b.days]) ∧ (Below w.heap.size w W ∧ w2.heap.size ≤ W.heap.size))
      (fun c pre W => False)
      (OwnFrom.and (OwnFrom.and (fun s X Y row hs hg hr => by obtain ⟨u, g1, g2⟩ := hs; exact ⟨u, g1.grown hg (fun r e => (hr r e).2), own_grown g2 hg (fun r e => (hr r e).2)⟩) (Own.from (ownB_own _ _ _) _)) (OwnFrom.and (ownFrom_below (Nat.le_refl _) hwn) (fun _ _ _ _ hs hg _ => Nat.le_trans hs hg.size)))
      (fun c _ _ _ _ h _ _ => h)
      ⟨⟨⟨_, Q2.out, World.ownsRow_nil _ _ _ _⟩, Q1.out⟩, hE4, Nat.le_refl _⟩
      (fun x a' W => ∃ Bx, OwnB W Bx 119 (encFc x.1.2) ∧ a' = { tmps := #[.agg #[.slice P0 b.masses.length k0, .slice P1 b.weighings.length k1, .slice P2 b.scales.length k2, .slice P3 b.trials.length k3, .int .i64 b.days], .pointer (some ⟨w.heap.size, 0, none⟩), .slice none 0 0, .int .i64 0, .int .i64 0, .pointer (some ⟨w1.heap.size, 0, none⟩), .pointer (some ⟨w1.heap.size + 1, 0, none⟩), undef, .pointer (some ⟨Bx, 0, none⟩), undef, undef, undef, .agg #[.slice P0 b.masses.length k0, .slice P1 b.weighings.length k1, .slice P2 b.scales.length k2, .slice P3 b.trials.length k3, .int .i64 b.days], .int .i64 0, .int .i64 0, .bool false, undef, .agg #[.slice P0 b.masses.length k0, .slice P1 b.weighings.length k1, .slice P2 b.scales.length k2, .slice P3 b.trials.length k3, .int .i64 b.days], .agg #[.slice P0 b.masses.length k0, .slice P1 b.weighings.length k1, .slice P2 b.scales.length k2, .slice P3 b.trials.length k3, .int .i64 b.days], .agg #[.slice P0 b.masses.length k0, .slice P1 b.weighings.length k1, .slice P2 b.scales.length k2, .slice P3 b.trials.length k3, .int .i64 b.days], .func (.func 115) #[] #[.pointer (some ⟨B, 0, none⟩)], .int .i64 x.1.1, .agg (encFc x.1.2).toArray, undef, undef, undef, undef, undef, undef, undef, undef, undef, undef, undef, undef, undef, undef, undef, undef, undef, undef, undef], defers := [] })
      (fun x a' _ X Y row hs hg hr => by obtain ⟨Bx, h2, h3⟩ := hs; exact ⟨Bx, h2.grown hg (fun r e => (hr r e).2), h3⟩)
      ?assign ?body ?done ?stop
    case assign =>
      rintro l pre x W K ⟨⟨⟨u, g1, g2⟩, g5⟩, hB, hW2⟩ hK
      obtain ⟨⟨ix, ⟨fi, fj, fd, fd2⟩⟩, hx⟩ := x
      have hl := OwnB.laid W 119 [.int .i64 fi, .int .i64 fj, .int .i64 fd, .int .i64 fd2]
      unfold encsRF encF
      gi_wp2
      exact hK _ _ ((KeepsOthers.alloc _ _).from _) ⟨(Below.refl _ W).alloc hB.size _, Below.heap_alloc _ _ _ (by omega)⟩ ⟨⟨⟨u, g1.ext (Ext.alloc _ _), own_ext g2 (Ext.alloc _ _)⟩, g5.ext (Ext.alloc _ _)⟩, hB.alloc hB.size _, by simp; omega⟩ ⟨W.heap.size, hl, rfl⟩
    case body =>
      rintro l pre x a' W hl ⟨r, hr⟩ ⟨⟨⟨u, g1, g2⟩, g5⟩, hB, hW2⟩ ⟨Bx, bX, rfl⟩ hlt
      obtain ⟨⟨ix, ⟨fi, fj, fd, fd2⟩⟩, hx⟩ := x
      simp only [encFc] at bX ⊢
      have hg1 := g1.cell (j := 0) rfl
      have x0 := bX.cell (j := 0) rfl
      have x1 := bX.cell (j := 1) rfl
      have x2 := bX.cell (j := 2) rfl
      have x3 := bX.cell (j := 3) rfl
      have G1 := Lib.hid g1
      have G2 := Lib.hid g2
      have G5 := Lib.hid g5
      have hga := own_ext g2 (Ext.alloc W (.cells [.int .i64 fi, .int .i64 fj, .int .i64 fd, .int .i64 fd2].toArray 119))
      have HGa := Lib.hid hga
      have hpl : pre.length + 1 ≤ 1000 := by omega
      clear g1 g2 g5 bX hga
      obtain ⟨A, n, c, hu⟩ : ∃ A n c, u = .slice A n c := by
        rcases G2.out.2 with ⟨h, _⟩ | ⟨g, cap, cur, h, _⟩
        · exact ⟨_, _, _, h⟩
        · exact ⟨_, _, _, h⟩
      subst hu
      gi_wp2_with (gi_at_builtin; refine wpListIn_append_own _ rfl (.tmp 23) (.tmp 25) 112 rfl w2.heap.size 119 i0 (.agg #[.int .i64 0, .int .i64 0, .int .i64 0, .int .i64 0]) 4 32 underFacts HI.out.1 HI.out.2.1 HI.out.2.2.1 HI.out.2.2.2 rfl (by decide) _ _ _ rfl HGa.out ⟨W.heap.size, 0, none⟩ 1 1 [.int .i64 fi, .int .i64 fj, .int .i64 fd, .int .i64 fd2] rfl rfl ?c1 ?c2 ?c3 ?c4 ?c5 ?_)
      case c1 => exact cells_new W [.int .i64 fi, .int .i64 fj, .int .i64 fd, .int .i64 fd2] 119
      case c2 => intro u hu; simp at hu; rcases hu with rfl | rfl | rfl | rfl <;> rfl
      case c3 => unfold maxLen; omega
      case c4 => omega
      case c5 => simp; omega
      intro v5 w5 hown5 hgrow5 _
      have z1 : OwnB w5 (w1.heap.size + 1) 112 [.slice A n c] := (block_row HGa.out hgrow5 (by omega) (by simp; omega)).trans (G1.out.ext (Ext.alloc W (.cells [.int .i64 fi, .int .i64 fj, .int .i64 fd, .int .i64 fd2].toArray 119)))
      have z5 : OwnB w5 w1.heap.size 111 [.slice P0 b.masses.length k0, .slice P1 b.weighings.length k1, .slice P2 b.scales.length k2, .slice P3 b.trials.length k3, .int .i64 b.days] := (block_row HGa.out hgrow5 (by omega) (by simp; omega)).trans (G5.out.ext (Ext.alloc W (.cells [.int .i64 fi, .int .i64 fj, .int .i64 fd, .int .i64 fd2].toArray 119)))
      have zB := (block_row (b := B) HGa.out hgrow5 (by omega) (by simp; omega)).trans ((Ext.alloc W (.cells [.int .i64 fi, .int .i64 fj, .int .i64 fd, .int .i64 fd2].toArray 119)).block B (by omega))
      have zb := ((Below.refl w.heap.size W).alloc (by omega) (.cells [.int .i64 fi, .int .i64 fj, .int .i64 fd, .int .i64 fd2].toArray 119)).trans (below_row (n₀ := w.heap.size) HGa.out hgrow5 hwn (by simp; omega))
      have zk := (KeepsOthers.alloc W (.cells [.int .i64 fi, .int .i64 fj, .int .i64 fd, .int .i64 fd2].toArray 119)).trans (keeps_row HGa.out hgrow5)
      have zs := hgrow5.size
      simp only [World.size_alloc] at zs
      have e1 := z1.cell (j := 0) rfl
      have e2 := z1.frozen 0
      have Z1 := Lib.hid z1
      have Z5 := Lib.hid z5
      have ZB := Lib.hid zB
      have Zb := Lib.hid zb
      have Zk := Lib.hid zk
      have HOwn5 := Lib.hid hown5
      clear z1 z5 zB zb zk hown5 hgrow5 x0 x1 x2 x3 hg1
      obtain ⟨A', n', c', hu⟩ : ∃ A n c, v5 = .slice A n c := by
        rcases HOwn5.out.2 with ⟨h, _⟩ | ⟨g, cap, cur, h, _⟩
        · exact ⟨_, _, _, h⟩
        · exact ⟨_, _, _, h⟩
      subst hu
      gi_wp2_with fail
      have hrow : (w5.setCell ⟨w1.heap.size + 1, 0, none⟩ (.slice A' n' c')).ownsRow w2.heap.size 119 4 (.slice A' n' c') (pre.length + 1) _ :=
        HOwn5.out.kept (grownBy_setCell' w5 (w1.heap.size + 1) (.slice A' n' c')) (.inr (fun e => by have := (HOwn5.out.lt _ e).1; omega))
      have hkp : KpB w.heap.size B W (w5.setCell ⟨w1.heap.size + 1, 0, none⟩ (.slice A' n' c')) :=
        ⟨Zb.out.setCell (p := ⟨w1.heap.size + 1, 0, none⟩) (by simp; omega) _, (Below.heap_setCell _ _ _ _ (by simp; omega)).trans ZB.out⟩
      refine ⟨(Zk.out.trans (KeepsOthers.setCell _ _ _)).from _, hkp, ⟨⟨_, Z1.out.set 0 _, ?_⟩, Z5.out.other (by omega) 0 _⟩, hB.trans hkp.1, by simp; omega⟩
      rw [List.length_append, facts1_snoc, List.flatMap_append]
      simp only [List.length_cons, List.length_nil, List.flatMap_cons, List.flatMap_nil, List.append_nil, encFc]
      exact hrow
    case stop =>
      rintro D c pre W hD hpre h hK
      exact h.elim
    case done =>
      rintro D xs W hD rfl ⟨⟨⟨u, g1, g2⟩, g5⟩, hB, hW2⟩ hK
      have hlb : w1.heap.size + 1 < W.heap.size := g1.lt
      obtain ⟨A, n, c, hu⟩ : ∃ A n c, u = .slice A n c := by
        rcases g2.2 with ⟨h, _⟩ | ⟨g, cap, cur, h, _⟩
        · exact ⟨_, _, _, h⟩
        · exact ⟨_, _, _, h⟩
      subst hu
      have hfs : facts1 xs = (resFacts b dd).map Prod.snd := by unfold facts1; rw [← HAll.out, List.map_map]; rfl
      have hlf : (facts1 xs).length = xs.length := by simp [facts1]
      have hrd : Rd 4 (Flat encFc) W (.slice A n c) (facts1 xs) := rd_owned g2 (fun _ _ => rfl) hlf (by omega)
      have hnl : n = (facts1 xs).length := by obtain ⟨A1, c1, e1, _⟩ := hrd.form; cases e1; rfl
      subst hnl
      have hok : ∀ f ∈ facts1 xs, FactOk N f := fun f hf => by
        rw [hfs] at hf
        obtain ⟨x, hx, rfl⟩ := List.mem_map.1 hf
        exact HRd.out.hf x hx
      have hfew : (facts1 xs).length ≤ 1000 := by omega
      have HFs := Lib.hid hfs
      clear hfs HAll hlf
      generalize facts1 xs = fs at *
      have cF := g1.cell (j := 0) rfl
      have cb0 := g5.cell (j := 0) rfl
      have cb1 := g5.cell (j := 1) rfl
      have cb2 := g5.cell (j := 2) rfl
      have cb3 := g5.cell (j := 3) rfl
      have cb4 := g5.cell (j := 4) rfl
      have G1 := Lib.hid g1
      have G5 := Lib.hid g5
      have HRdF := Lib.hid hrd
      have HOk := Lib.hid hok
      have HK := Lib.hid hK
      clear g1 g2 g5 hrd hok hK
      gi_wp2_with fail
      obtain ⟨wo, rfl⟩ : ∃ wo, wo = w1 := ⟨_, rfl⟩
      have HC := Lib.hid (show Ctx N (wo.heap.size + 1) W.heap.size A c fs (W.alloc (.cells [.func (.func 66) #[] #[.pointer (some ⟨wo.heap.size + 1, 0, none⟩), .pointer (some ⟨W.heap.size, 0, none⟩)]].toArray 120)) from
        ⟨G1.out.ext (Ext.alloc _ _), OwnB.laid _ _ _, HRdF.out.ext (Flat.keeps _) (Ext.alloc _ _), HOk.out, hfew⟩)
      have HBn := Lib.hid (G5.out.ext (Ext.alloc W (.cells [.func (.func 66) #[] #[.pointer (some ⟨wo.heap.size + 1, 0, none⟩), .pointer (some ⟨W.heap.size, 0, none⟩)]].toArray 120)))
      have HEW := Lib.hid (show Ext w _ from (Below.trans hB ((Ext.alloc W (.cells [.func (.func 66) #[] #[.pointer (some ⟨wo.heap.size + 1, 0, none⟩), .pointer (some ⟨W.heap.size, 0, none⟩)]].toArray 120)).mono hB.size)))
      have HKD := Lib.hid (((Ext.alloc W (.cells [.func (.func 66) #[] #[.pointer (some ⟨wo.heap.size + 1, 0, none⟩), .pointer (some ⟨W.heap.size, 0, none⟩)]].toArray 120)).block D (Array.getElem?_eq_some_iff.1 HK.out).1).trans HK.out)
      generalize W.alloc (.cells [.func (.func 66) #[] #[.pointer (some ⟨wo.heap.size + 1, 0, none⟩), .pointer (some ⟨W.heap.size, 0, none⟩)]].toArray 120) = Wx at *
      clear cF cb0 cb1 cb2 cb3 cb4
      gi_loopw [10] (fun q wr => ∃ k : Nat, q = .int .i64 k ∧ 1 ≤ k ∧ k ≤ fs.length + 1 ∧ Ext Wx wr ∧ clashGo N fs t0 (fs.length + 1 - k) k = clashS N fs t0) (fun q _ => fs.length + 2 - (intOf q).toNat)
      case atStart => exact ⟨1, rfl, Nat.le_refl _, by omega, Ext.refl _, by unfold clashS; rw [Nat.add_sub_cancel]⟩
      case round =>
        obtain ⟨k, rfl, hk1, hk, hE, hgo⟩ := hrel
        have HGo := Lib.hid hgo
        clear hgo
        have l0 := (HC.out.ext hE).facts.cell (j := 0) rfl
        have hwr1 : IntKind.i64.wrap ((k : Int) + 1) = (k : Int) + 1 := by rw [IntKind.wrap_i64]; omega
        by_cases hlt : k ≤ fs.length
        · obtain ⟨m, rfl⟩ : ∃ m, k = m + 1 := ⟨k - 1, by omega⟩
          have hstep := HGo.out
          rw [show fs.length + 1 - (m + 1) = (fs.length + 1 - (m + 1 + 1)) + 1 by omega] at hstep
          unfold clashGo at hstep
          cases hsr : searchS N fs (m + 1) t0 [] 0 with
          | none =>
            rw [hsr] at hstep
            have HStep := Lib.hid hstep
            have HSr := Lib.hid hsr
            clear hstep hsr HGo
            gi_wp2_with fail
            refine region_extIn 5 [(2, tabSp N t0)] (by kernel_rfl) (by kernel_rfl) ⟨tabSp_stable _ _, trivial⟩ ?_
            simp only [List.take_succ_cons, List.take_zero, List.drop_succ_cons, List.drop_zero]
            refine wpR_val (v := ?_) ?_ ?_ (fun w1 hS hK => ?_) ?_
            rotate_left
            · rfl
            · rfl
            · have E1 := (hE).trans hS
              have k0 := (HC.out.ext E1).self.cell (j := 0) rfl
              have k1 := (HBn.out.ext E1).cell (j := 0) rfl
              have k2 := (HBn.out.ext E1).cell (j := 1) rfl
              have k3 := (HBn.out.ext E1).cell (j := 2) rfl
              have k4 := (HBn.out.ext E1).cell (j := 3) rfl
              have k5 := (HBn.out.ext E1).cell (j := 4) rfl
              clear hK hS E1
              go_simp
              with_reducible rfl
            simp only [Act.put, List.setIfInBounds_toArray, List.set_cons_zero, List.set_cons_succ]
            refine wpR_val (v := ?_) ?_ ?_ (fun w1 hS hK => ?_) ?_
            rotate_left
            · rfl
            · rfl
            · have E1 := (hE).trans hS
              have k0 := (HC.out.ext E1).self.cell (j := 0) rfl
              have k1 := (HBn.out.ext E1).cell (j := 0) rfl
              have k2 := (HBn.out.ext E1).cell (j := 1) rfl
              have k3 := (HBn.out.ext E1).cell (j := 2) rfl
              have k4 := (HBn.out.ext E1).cell (j := 3) rfl
              have k5 := (HBn.out.ext E1).cell (j := 4) rfl
              clear hK hS E1
              go_simp
              with_reducible rfl
            simp only [Act.put, List.setIfInBounds_toArray, List.set_cons_zero, List.set_cons_succ]
            refine wpR_made (by rfl) (by rfl) (fun w1 hS hK => ?_) (fun v hv => ?_)
            · exact made_call (f := 69) (args := #[.agg #[.slice P0 b.masses.length k0, .slice P1 b.weighings.length k1, .slice P2 b.scales.length k2, .slice P3 b.trials.length k3, .int .i64 b.days]]) (by go_simp) (start_made HRd.out _ w1 (HBr.out.ext ((HEW.out.trans hE).trans hS)))
            simp only [Act.put, List.setIfInBounds_toArray, List.set_cons_zero, List.set_cons_succ]
            refine wpR_val (v := ?_) ?_ ?_ (fun w1 hS hK => ?_) ?_
            rotate_left
            · rfl
            · rfl
            · clear hK hS
              go_simp
              with_reducible rfl
            simp only [Act.put, List.setIfInBounds_toArray, List.set_cons_zero, List.set_cons_succ]
            refine wpR_call (v := ?_) (f := ?_) (args := ?_) ?_ ?_ (fun w => ?_) ?_ (fun w1 hS hK => ?_) ?_
            rotate_left 3
            · rfl
            · rfl
            · go_simp
              refine ⟨?_, ?_⟩ <;> rfl
            · kernel_rfl
            · exact search_none HSr.out HRd.out.n0.2 (by omega) (HC.out.ext (hE.trans hS)) (hK.1 (by kernel_rfl)) HRd.out.hg
            simp only [Act.put, List.setIfInBounds_toArray, List.set_cons_zero, List.set_cons_succ]
            intro w4 E4 _
            have hE5 := hE.trans E4
            have HSt := Lib.hid (show clashGo N fs t0 (fs.length + 1 - (m + 1 + 1)) (m + 1 + 1) = clashS N fs t0 from HStep.out)
            have hnil := fun (w : World) a n c => run_neq_slice_nil_any (P := Try.prog) w 30 3 a n c 0 0 underInts
            clear E4 hE
            gi_wp2
            go_roundw
            case rel => exact ⟨m + 1 + 1, congrArg (Value.int .i64) (by omega), by omega, by omega, hE5, HSt.out⟩
            case measure => simp [intOf]; omega
          | some l =>
            rw [hsr] at hstep
            have HStep := Lib.hid hstep
            have HSr := Lib.hid hsr
            clear hstep hsr HGo
            gi_wp2_with fail
            refine region_extIn 5 [(2, tabSp N t0), (4, rowSp w.heap.size l)] (by kernel_rfl) (by kernel_rfl) ⟨tabSp_stable _ _, rowSp_stable _ _, trivial⟩ ?_
            simp only [List.take_succ_cons, List.take_zero, List.drop_succ_cons, List.drop_zero]
            refine wpR_val (v := ?_) ?_ ?_ (fun w1 hS hK => ?_) ?_
            rotate_left
            · rfl
            · rfl
            · have E1 := (hE).trans hS
              have k0 := (HC.out.ext E1).self.cell (j := 0) rfl
              have k1 := (HBn.out.ext E1).cell (j := 0) rfl
              have k2 := (HBn.out.ext E1).cell (j := 1) rfl
              have k3 := (HBn.out.ext E1).cell (j := 2) rfl
              have k4 := (HBn.out.ext E1).cell (j := 3) rfl
              have k5 := (HBn.out.ext E1).cell (j := 4) rfl
              clear hK hS E1
              go_simp
              with_reducible rfl
            simp only [Act.put, List.setIfInBounds_toArray, List.set_cons_zero, List.set_cons_succ]
            refine wpR_val (v := ?_) ?_ ?_ (fun w1 hS hK => ?_) ?_
            rotate_left
            · rfl
            · rfl
            · have E1 := (hE).trans hS
              have k0 := (HC.out.ext E1).self.cell (j := 0) rfl
              have k1 := (HBn.out.ext E1).cell (j := 0) rfl
              have k2 := (HBn.out.ext E1).cell (j := 1) rfl
              have k3 := (HBn.out.ext E1).cell (j := 2) rfl
              have k4 := (HBn.out.ext E1).cell (j := 3) rfl
              have k5 := (HBn.out.ext E1).cell (j := 4) rfl
              clear hK hS E1
              go_simp
              with_reducible rfl
            simp only [Act.put, List.setIfInBounds_toArray, List.set_cons_zero, List.set_cons_succ]
            refine wpR_made (by rfl) (by rfl) (fun w1 hS hK => ?_) (fun v hv => ?_)
            · exact made_call (f := 69) (args := #[.agg #[.slice P0 b.masses.length k0, .slice P1 b.weighings.length k1, .slice P2 b.scales.length k2, .slice P3 b.trials.length k3, .int .i64 b.days]]) (by go_simp) (start_made HRd.out _ w1 (HBr.out.ext ((HEW.out.trans hE).trans hS)))
            simp only [Act.put, List.setIfInBounds_toArray, List.set_cons_zero, List.set_cons_succ]
            refine wpR_val (v := ?_) ?_ ?_ (fun w1 hS hK => ?_) ?_
            rotate_left
            · rfl
            · rfl
            · clear hK hS
              go_simp
              with_reducible rfl
            simp only [Act.put, List.setIfInBounds_toArray, List.set_cons_zero, List.set_cons_succ]
            refine wpR_made (by rfl) (by rfl) (fun w1 hS hK => ?_) (fun v hv => ?_)
            · exact made_call (f := 66) (args := #[_, .slice none 0 0, .int .i64 0, .int .i64 ((m + 1 : Nat) : Int), .pointer (some ⟨wo.heap.size + 1, 0, none⟩), .pointer (some ⟨W.heap.size, 0, none⟩)]) (by go_simp) ((search_some HSr.out HRd.out.n0.2 (by omega) (HC.out.ext (hE.trans hS)) (hK.1 (by kernel_rfl)) HRd.out.hg).mono fun e w' ⟨v', h1, h2, h3, h4⟩ => ⟨v', h1, h2, own_lower h3 ((HEW.out.trans hE).trans hS).size, h4⟩)
            simp only [Act.put, List.setIfInBounds_toArray, List.set_cons_zero, List.set_cons_succ]
            intro w4 E4 L4
            obtain ⟨a4, n4, c4, rfl⟩ := hv
            have HRd4 := Lib.hid (show w4.ownsRow w.heap.size 3 1 (.slice (some a4) n4 c4) l.length (l.flatMap encI) from L4.1)
            have hE5 := hE.trans E4
            have HSt := Lib.hid (show some l = clashS N fs t0 from HStep.out)
            have hnil := fun (w : World) a n c => run_neq_slice_nil_any (P := Try.prog) w 30 3 a n c 0 0 underInts
            clear E4 hE L4
            gi_wp2
            have hK' := (hE5.block D (Array.getElem?_eq_some_iff.1 HKD.out).1).trans HKD.out
            refine ⟨by simp, .inl ⟨_, _, rfl, run_takeDeferred hK', ?_⟩⟩
            refine ⟨_, results_tmp2 rfl _ _ _, ?_⟩
            show Q (.returned (.tuple #[.slice (some a4) n4 c4, .int .i64 0])) _
            rw [← HQ.out]
            unfold ClashPost
            rw [if_pos hce, ← HFs.out, ← HSt.out]
            exact ⟨⟨_, _, _, rfl, own_grown HRd4.out (grownBy_putObj' _ D (.deferred none)) (fun r e => by cases e; exact ⟨_, hK', rfl⟩)⟩, Below.trans (HEW.out.trans hE5) (belowK_b (w := w2) hwn _ D _ _ (by omega) hK' rfl rfl)⟩
        · obtain rfl : k = fs.length + 1 := by omega
          gi_wp2_with fail
          have hK' := (hE.block D (Array.getElem?_eq_some_iff.1 HKD.out).1).trans HKD.out
          refine ⟨by simp, .inl ⟨_, _, rfl, run_takeDeferred hK', ?_⟩⟩
          refine ⟨_, results_tmp2 rfl _ _ _, ?_⟩
          show Q (.returned (.tuple #[.slice none 0 0, .int .i64 3])) _
          rw [← HQ.out]
          unfold ClashPost
          have hgo := HGo.out
          rw [show fs.length + 1 - (fs.length + 1) = 0 by omega] at hgo
          rw [if_pos hce, ← HFs.out, ← hgo]
          exact ⟨rfl, Below.trans (HEW.out.trans hE) (belowK_b (w := w2) hwn _ D _ _ (by omega) hK' rfl rfl)⟩
  · have Hce := Lib.hid hce
    clear hce
    gi_wp2_with fail
    refine ⟨_, results_tmp2 rfl _ _ _, ?_⟩
    show Q (.returned (.tuple #[.slice none 0 0, .int .i64 ce])) w1
    rw [← HQ.out]
    unfold ClashPost
    rw [Hce.out, if_neg h0]
    exact ⟨rfl, hE1⟩
end Go.Proofs.Ytebfnjabgkhngaa
end
section
set_option linter.all false
set_option linter.unusedVariables false
set_option linter.unusedSimpArgs false
set_option linter.constructorNameAsVariable false
set_option linter.unusedVariables false
namespace Go.Proofs.Ytebfnjabgkhngaa
open Go.RowKit Go.RT
set_option maxRecDepth 100000 in
set_option maxHeartbeats 400000 in
theorem first2_any (fs : List ((Nat × Value) × Int)) (v : Value) (w : World) (hv : Rd 1 (Flat fun (x : (Nat × Value) × Int) => [fnV x.1.1 x.1.2]) w v fs)
    (HC : ∀ x ∈ fs, Callable x.1.1) (H : ∀ x ∈ fs, ∀ w', Ext w w' → CallsInt x.1.1 #[x.1.2] w' x.2) : CallsInt 73 #[v] w (firstErr (fun x => x.2) fs) := by
  obtain ⟨A, c, rfl, hlen⟩ := hv.form
  go_enter Try.func73, Try.ntmps73
  go_wp2
  go_loopw [8] (fun i wr => ∃ k : Nat, i = .int .i64 k ∧ k ≤ fs.length ∧ Ext w wr ∧ firstErr (fun x => x.2) fs = firstErr (fun x => x.2) (fs.drop k)) (fun i _ => fs.length - (intOf i).toNat)
  case atStart => exact ⟨0, rfl, Nat.zero_le _, Ext.refl _, rfl⟩
  case round =>
    obtain ⟨k, rfl, hk, hE, hf⟩ := hrel
    have HF := Lib.hid hf
    clear hf
    by_cases hlt : k < fs.length
    · obtain ⟨b, o, rfl, hc⟩ := (hv.ext (Flat.keeps _) hE).at_ k hlt
      have c0 := hc 0 _ rfl
      have hH := H fs[k] (List.getElem_mem hlt)
      have hC := HC fs[k] (List.getElem_mem hlt)
      have hd := firstErr_drop (fun x : (Nat × Value) × Int => x.2) fs k hlt
      simp only [fnV, Nat.add_zero, Nat.mul_one] at c0
      clear hc H HC hv
      generalize fs[k] = x at *
      obtain ⟨⟨f, p⟩, r⟩ := x
      simp only at c0 hd hH hC
      obtain ⟨fn, hf1, hf2, hf3⟩ := hC
      have hcall := fun W => run_callFunc hf1 hf2 hf3 #[p] W
      clear hf1 hf2 hf3
      have HD := Lib.hid hd
      have HH := Lib.hid hH
      clear hd hH
      go_wp2_with fail
      refine (HH.out _ hE).mono ?_
      rintro e w1 ⟨rfl, hE1⟩
      have hE2 := hE.trans hE1
      clear c0
      by_cases hr : r = 0
      · subst hr
        go_wp2
        go_roundw
        case rel => exact ⟨k + 1, by go_num, by omega, hE2, by rw [HF.out, HD.out]; rfl⟩
        case measure => simp [intOf]; omega
      · have hr' : (r != 0) = true := by simpa using hr
        have HR := Lib.hid hr
        clear hr
        go_wp2
        go_ret
        exact ⟨ret_int (by rw [HF.out, HD.out, if_neg HR.out]), hE2⟩
    · obtain rfl : k = fs.length := by omega
      go_wp2
      go_ret
      exact ⟨by rw [HF.out]; simp [firstErr], hE⟩
def lastsGo (dlo dhi limit : Int) : Nat → Int → Int → Int → Int
  | 0, _, _, n => n
  | r + 1, lo, hi, n => if -limit ≤ lo ∧ hi ≤ limit then lastsGo dlo dhi limit r (lo + dlo) (hi + dhi) (n + 1) else n
def lastsErr (lo hi dlo dhi limit : Int) : Int :=
  if spanErr lo hi (-10000) 10000 = 0 then (if spanErr dlo dhi (-10000) 10000 = 0 then (if 0 ≤ limit ∧ limit ≤ 10000 then 0 else 1) else spanErr dlo dhi (-10000) 10000) else spanErr lo hi (-10000) 10000
def lastsDays (lo hi dlo dhi limit : Int) : Int := if lastsErr lo hi dlo dhi limit = 0 then lastsGo dlo dhi limit 11 lo hi (-1) else 0
theorem lasts1 (f : FuncId) (lo hi : Int) (B : Nat) (w : World) (hf : f = 74 ∨ f = 76) (h : OwnB w B 50 [.int .i64 lo, .int .i64 hi]) : CallsInt f #[.pointer (some ⟨B, 0, none⟩)] w (spanErr lo hi (-10000) 10000) := by
  have c0 := h.cell (j := 0) rfl
  have c1 := h.cell (j := 1) rfl
  rcases hf with rfl | rfl
  · go_enter Try.func74, Try.ntmps74
    go_wp2_with (go_at_call 75; refine (checkOff_any _ _ _).mono ?_; rintro e w' ⟨rfl, hE⟩)
    go_ret
    exact ⟨rfl, hE⟩
  · go_enter Try.func76, Try.ntmps76
    go_wp2_with (go_at_call 75; refine (checkOff_any _ _ _).mono ?_; rintro e w' ⟨rfl, hE⟩)
    go_ret
    exact ⟨rfl, hE⟩
set_option maxRecDepth 100000 in
set_option maxHeartbeats 1000000 in
theorem Lasts_any (lo hi dlo dhi limit : Int) (w : World) :
    Calls Try.prog 26 #[.agg #[.int .i64 lo, .int .i64 hi], .agg #[.int .i64 dlo, .int .i64 dhi], .int .i64 limit] w fun e w' => e = .returned (.tuple #[.int .i64 (lastsDays lo hi dlo dhi limit), .int .i64 (lastsErr lo hi dlo dhi limit)]) ∧ Ext w w' := by
  have HA := Lib.hid ((OwnB.laid w 50 [.int .i64 lo, .int .i64 hi]).ext (Ext.alloc _ (.cells [.int .i64 dlo, .int .i64 dhi].toArray 50)))
  have hd := OwnB.laid (w.alloc (.cells [.int .i64 lo, .int .i64 hi].toArray 50)) 50 [.int .i64 dlo, .int .i64 dhi]
  rw [World.size_alloc] at hd
  have HD := Lib.hid hd
  clear hd
  obtain ⟨Q, hQ⟩ : ∃ Q : Ending → World → Prop, (fun e w' => e = .returned (.tuple #[.int .i64 (lastsDays lo hi dlo dhi limit), .int .i64 (lastsErr lo hi dlo dhi limit)]) ∧ Ext w w') = Q := ⟨_, rfl⟩
  rw [hQ]
  have HQ := Lib.hid hQ
  clear hQ
  go_enter Try.func26, Try.ntmps26
  go_wp2_with fail
  obtain ⟨fs, hfs⟩ : ∃ fs : List ((Nat × Value) × Int), fs = [((74, .pointer (some ⟨w.heap.size, 0, none⟩)), spanErr lo hi (-10000) 10000), ((76, .pointer (some ⟨w.heap.size + 1, 0, none⟩)), spanErr dlo dhi (-10000) 10000)] := ⟨_, rfl⟩
  have hlen : fs.length = 2 := by rw [hfs]; rfl
  refine (first2_any fs _ _ (rd_flat' (xs := fs) hlen (by omega) (by simp) (fun j u hu => ?_)) ?_ ?_).mono ?_
  · have := cell_laid ((w.alloc (.cells #[.int .i64 lo, .int .i64 hi] 50)).alloc (.cells #[.int .i64 dlo, .int .i64 dhi] 50)) _ 137 j u (by rw [hfs] at hu; exact hu)
    rw [World.size_alloc, World.size_alloc] at this
    exact this
  · intro x hx
    rw [hfs] at hx
    simp only [List.mem_cons, List.not_mem_nil, or_false] at hx
    rcases hx with rfl | rfl
    · exact callable Try.func74 (by decide) rfl
    · exact callable Try.func76 (by decide) rfl
  · intro x hx w' hE
    rw [hfs] at hx
    simp only [List.mem_cons, List.not_mem_nil, or_false] at hx
    rcases hx with rfl | rfl
    · exact lasts1 _ lo hi _ _ (.inl rfl) ((HA.out.ext (Ext.alloc _ _)).ext hE)
    · exact lasts1 _ dlo dhi _ _ (.inr rfl) ((HD.out.ext (Ext.alloc _ _)).ext hE)
  rintro e w1 ⟨rfl, hE⟩
  have hval : firstErr (fun x : (Nat × Value) × Int => x.2) fs = if spanErr lo hi (-10000) 10000 = 0 then spanErr dlo dhi (-10000) 10000 else spanErr lo hi (-10000) 10000 := by
    rw [hfs]
    simp only [firstErr]
    split
    · split
      · rename_i h; exact h.symm
      · rfl
    · rfl
  have hE1 := (((Ext.alloc w (.cells #[.int .i64 lo, .int .i64 hi] 50)).trans (Ext.alloc _ (.cells #[.int .i64 dlo, .int .i64 dhi] 50))).trans (Ext.alloc _ _)).trans hE
  have HA1 := Lib.hid ((HA.out.ext (Ext.alloc _ _)).ext hE)
  have HD1 := Lib.hid ((HD.out.ext (Ext.alloc _ _)).ext hE)
  clear hfs hlen hE HA HD
  generalize firstErr (fun x : (Nat × Value) × Int => x.2) fs = ce at *
  have HVal := Lib.hid hval
  clear hval
  by_cases h0 : ce = 0
  · subst h0
    have hz : spanErr lo hi (-10000) 10000 = 0 ∧ spanErr dlo dhi (-10000) 10000 = 0 := by
      have := HVal.out
      split at this
      · rename_i h; exact ⟨h, this.symm⟩
      · rename_i h; exact absurd this.symm h
    have b1 := spanErr_zero hz.1
    have b2 := spanErr_zero hz.2
    have HZ := Lib.hid hz
    clear hz
    by_cases hin : 0 ≤ limit ∧ limit ≤ 10000
    · have g1 := hin.1
      have g2 := hin.2
      have herr : lastsErr lo hi dlo dhi limit = 0 := by unfold lastsErr; rw [if_pos HZ.out.1, if_pos HZ.out.2, if_pos hin]
      have HErr := Lib.hid herr
      clear herr hin
      go_wp2_with (go_at_call 77; go_in)
      all_goals (first | (exfalso; omega) | (exfalso; simp only [Bool.not_eq_true', Bool.not_eq_false', decide_eq_true_eq, decide_eq_false_iff_not] at *; omega) | skip)
      have hgo : lastsDays lo hi dlo dhi limit = lastsGo dlo dhi limit 11 lo hi (-1) := by unfold lastsDays; rw [if_pos HErr.out]
      have HGo := Lib.hid hgo
      have hl1 := HD1.out.lt
      clear hgo
      go_loopw [9] (fun q wr => ∃ (r : Nat) (L H n : Int), q = .int .i64 n ∧ n = 10 - (r : Int) ∧ r ≤ 11 ∧ (-10000 * (12 - (r : Int)) ≤ L ∧ L ≤ 10000 * (12 - (r : Int)) ∧ -10000 * (12 - (r : Int)) ≤ H ∧ H ≤ 10000 * (12 - (r : Int))) ∧ Ext w wr ∧ OwnB wr w.heap.size 50 [.int .i64 L, .int .i64 H] ∧ OwnB wr (w.heap.size + 1) 50 [.int .i64 dlo, .int .i64 dhi] ∧ lastsGo dlo dhi limit r L H n = lastsDays lo hi dlo dhi limit) (fun q _ => (10 - intOf q).toNat)
      case atStart => exact ⟨11, lo, hi, -1, rfl, by omega, by omega, by omega, hE1, HA1.out, HD1.out, HGo.out.symm⟩
      case round =>
        clear HA1 HD1 hE1 HGo
        obtain ⟨r, L, H, n, rfl, hn, hr, ⟨y1, y2, y3, y4⟩, hE, hA, hD, hgo⟩ := hrel
        have a0 := hA.cell (j := 0) rfl
        have a1 := hA.cell (j := 1) rfl
        have f0 := hA.frozen 0
        have f1 := hA.frozen 1
        have e0 := hD.cell (j := 0) rfl
        have e1 := hD.cell (j := 1) rfl
        have HA := Lib.hid hA
        have HD := Lib.hid hD
        have HGo := Lib.hid hgo
        have hw1 : IntKind.i64.wrap (L + dlo) = L + dlo := by rw [IntKind.wrap_i64]; omega
        have hw2 : IntKind.i64.wrap (H + dhi) = H + dhi := by rw [IntKind.wrap_i64]; omega
        have hw3 : IntKind.i64.wrap (-limit) = -limit := by rw [IntKind.wrap_i64]; omega
        have hw4 : IntKind.i64.wrap (n + 1) = n + 1 := by rw [IntKind.wrap_i64]; omega
        have HN := Lib.hid hn
        have HY := Lib.hid (And.intro y1 (And.intro y2 (And.intro y3 y4)))
        clear hA hD hgo hn y1 y2 y3 y4
        by_cases hlt : n < 10
        · obtain ⟨r, rfl⟩ : ∃ r', r = r' + 1 := ⟨r - 1, by have := HN.out; omega⟩
          by_cases c1 : -limit ≤ L
          · by_cases c2 : H ≤ limit
            · have hgo : lastsGo dlo dhi limit r (L + dlo) (H + dhi) (n + 1) = lastsDays lo hi dlo dhi limit := by
                have := HGo.out
                unfold lastsGo at this
                rwa [if_pos ⟨c1, c2⟩] at this
              have HGo2 := Lib.hid hgo
              clear hgo HGo
              go_wp2
              go_region
              have hEw : Ext w ((wr.setCell ⟨w.heap.size, 0, none⟩ (.int .i64 (L + dlo))).setCell ⟨w.heap.size, 1, none⟩ (.int .i64 (H + dhi))) := ext_own (ext_own hE (Nat.le_refl _) _) (Nat.le_refl _) _
              have hAw := (HA.out.set 0 (.int .i64 (L + dlo))).set 1 (.int .i64 (H + dhi))
              simp only [List.set_cons_zero, List.set_cons_succ] at hAw
              have hDw := (HD.out.other (b' := w.heap.size) (by omega) 0 (.int .i64 (L + dlo))).other (b' := w.heap.size) (by omega) 1 (.int .i64 (H + dhi))
              go_wp2
              go_roundw
              case rel => exact ⟨r, L + dlo, H + dhi, n + 1, rfl, by have := HN.out; omega, by omega, by have := HY.out; omega, hEw.trans (Ext.drew _), hAw.ext (Ext.drew _), hDw.ext (Ext.drew _), HGo2.out⟩
              case measure => have := HN.out; simp [intOf]; omega
            · have hgo : n = lastsDays lo hi dlo dhi limit := by
                have := HGo.out
                unfold lastsGo at this
                rwa [if_neg (fun h => c2 h.2)] at this
              have HGo2 := Lib.hid hgo
              clear hgo HGo
              go_wp2
              rw [← HQ.out]
              exact ⟨by rw [HErr.out, ← HGo2.out], hE⟩
          · have hgo : n = lastsDays lo hi dlo dhi limit := by
              have := HGo.out
              unfold lastsGo at this
              rwa [if_neg (fun h => c1 h.1)] at this
            have HGo2 := Lib.hid hgo
            clear hgo HGo
            go_wp2
            rw [← HQ.out]
            exact ⟨by rw [HErr.out, ← HGo2.out], hE⟩
        · obtain rfl : r = 0 := by have := HN.out; omega
          have HGo2 := Lib.hid (show n = lastsDays lo hi dlo dhi limit from HGo.out)
          clear HGo
          go_wp2
          rw [← HQ.out]
          exact ⟨by rw [HErr.out, ← HGo2.out], hE⟩
    · have herr : lastsErr lo hi dlo dhi limit = 1 := by unfold lastsErr; rw [if_pos HZ.out.1, if_pos HZ.out.2, if_neg hin]
      go_wp2_with (go_at_call 77; go_in)
      all_goals (first | (exfalso; omega) | (exfalso; simp only [Bool.not_eq_true', Bool.not_eq_false', decide_eq_true_eq, decide_eq_false_iff_not] at *; omega) | skip)
      all_goals (show Q (.returned (.tuple #[.int .i64 0, .int .i64 1])) _)
      all_goals (rw [← HQ.out]; refine ⟨?_, hE1⟩; unfold lastsDays; rw [herr]; rfl)
  · have herr : lastsErr lo hi dlo dhi limit = ce := by
      have := HVal.out
      unfold lastsErr
      split at this
      · rename_i h; rw [if_pos h, if_neg (by omega), this]
      · rename_i h; rw [if_neg h, this]
    have HErr := Lib.hid herr
    clear herr
    go_wp2
    show Q (.returned (.tuple #[.int .i64 0, .int .i64 ce])) _
    rw [← HQ.out]
    refine ⟨?_, hE1⟩
    unfold lastsDays
    rw [HErr.out, if_neg h0]
end Go.Proofs.Ytebfnjabgkhngaa
end
section
set_option linter.all false
set_option linter.unusedVariables false
set_option linter.unusedSimpArgs false
set_option linter.constructorNameAsVariable false
set_option linter.unusedVariables false
namespace Go.Proofs.Ytebfnjabgkhngaa
open Go.RowKit Go.RT
def ixBad (low : Int) : List Int → Nat → Int
  | [], _ => -1
  | x :: l, k => if low ≤ x ∧ x ≤ 10 then ixBad low l (k + 1) else k
theorem bad_any (x low : Int) (B : Nat) (w : World) (h : OwnB w B 3 [.int .i64 low]) : CallsVal 128 #[.int .i64 x, .pointer (some ⟨B, 0, none⟩)] w (.bool (!decide (low ≤ x ∧ x ≤ 10))) := by
  have c0 := h.cell (j := 0) rfl
  go_enter Try.func128, Try.ntmps128
  by_cases h1 : low ≤ x
  · by_cases h2 : x ≤ 10
    · go_wp2_with (go_at_call 77; go_in)
      all_goals (first | (exfalso; omega) | skip)
      all_goals go_ret
      all_goals exact ⟨ret_bool (by simp [h1, h2]), Ext.refl _⟩
    · go_wp2_with (go_at_call 77; go_in)
      all_goals (first | (exfalso; omega) | skip)
      all_goals go_ret
      all_goals exact ⟨ret_bool (by simp; omega), Ext.refl _⟩
  · go_wp2_with (go_at_call 77; go_in)
    all_goals (first | (exfalso; omega) | skip)
    all_goals go_ret
    all_goals exact ⟨ret_bool (by simp; omega), Ext.refl _⟩
set_option maxRecDepth 100000 in
set_option maxHeartbeats 1000000 in
theorem IndexFunc_any (v : Value) (xs : List Int) (low : Int) (B : Nat) (w : World) (h : Rd 1 (Flat encI) w v xs) (hB : OwnB w B 3 [.int .i64 low]) :
    CallsInt 134 #[v, .func (.func 128) #[] #[.pointer (some ⟨B, 0, none⟩)]] w (ixBad low xs 0) := by
  obtain ⟨A, c, rfl, hlen⟩ := h.form
  have H := Lib.hid h
  have HB := Lib.hid hB
  obtain ⟨R, hR⟩ : ∃ R, ixBad low xs 0 = R := ⟨_, rfl⟩
  rw [hR]
  have HR := Lib.hid hR
  clear h hB hR
  go_enter Try.func134, Try.ntmps134
  go_wp2
  go_loopw [8] (fun q wr => ∃ k : Nat, q = .int .i64 k ∧ k ≤ xs.length ∧ Ext w wr ∧ ixBad low (xs.drop k) k = R) (fun q _ => xs.length - (intOf q).toNat)
  case atStart => exact ⟨0, rfl, Nat.zero_le _, Ext.refl _, HR.out⟩
  case round =>
    obtain ⟨k, rfl, hk, hE, hR⟩ := hrel
    have HK := Lib.hid hR
    clear hR HR
    by_cases hlt : k < xs.length
    · obtain ⟨b, o, rfl, hc⟩ := (H.out.ext (Flat.keeps _) hE).at_ k hlt
      have c0 := hc 0 _ rfl
      simp only [Nat.add_zero, Nat.mul_one] at c0
      have hstep := HK.out
      rw [List.drop_eq_getElem_cons hlt] at hstep
      unfold ixBad at hstep
      clear hc HK
      generalize xs[k] = x at *
      have HS := Lib.hid hstep
      clear hstep
      go_wp2_with fail
      refine (bad_any x low B wr (HB.out.ext hE)).mono ?_
      rintro e w1 ⟨rfl, hE1⟩
      have hE2 := hE.trans hE1
      clear c0 hE1
      by_cases hin : low ≤ x ∧ x ≤ 10
      · have hs := HS.out
        rw [if_pos hin] at hs
        have HS2 := Lib.hid hs
        have hd : decide (low ≤ x ∧ x ≤ 10) = true := by simpa using hin
        rw [hd]
        clear hs hin hd HS
        go_wp2
        go_roundw
        case rel => exact ⟨k + 1, by go_num, by omega, hE2, HS2.out⟩
        case measure => simp [intOf]; omega
      · have hs := HS.out
        rw [if_neg hin] at hs
        have hd : decide (low ≤ x ∧ x ≤ 10) = false := by simpa using hin
        rw [hd]
        clear hin hd HS
        have HS2 := Lib.hid hs
        clear hs
        go_wp2
        go_ret
        exact ⟨ret_int HS2.out, hE2⟩
    · obtain rfl : k = xs.length := by omega
      have hs := HK.out
      rw [List.drop_length] at hs
      have HS2 := Lib.hid hs
      clear hs HK
      go_wp2
      go_ret
      exact ⟨ret_int HS2.out, hE⟩
end Go.Proofs.Ytebfnjabgkhngaa
end
section
set_option linter.all false
set_option linter.unusedVariables false
set_option linter.unusedSimpArgs false
set_option linter.constructorNameAsVariable false
set_option linter.unusedVariables false
namespace Go.Proofs.Ytebfnjabgkhngaa
open Go.RowKit Go.RT
def badL (low : Int) (l : List Int) : Bool := decide (0 ≤ ixBad low l 0)
structure Seals where
  left : List Int
  every : List Int
  most : Int
  days : Int
def SealsRd (w : World) (v : Value) (s : Seals) : Prop := ∃ l e, v = .agg #[l, e, .int .i64 s.most, .int .i64 s.days] ∧ Rd 1 (Flat encI) w l s.left ∧ Rd 1 (Flat encI) w e s.every
theorem SealsRd.ext {w w' : World} {v : Value} {s : Seals} (h : SealsRd w v s) (he : Ext w w') : SealsRd w' v s := by
  obtain ⟨l, e, h1, h2, h3⟩ := h
  exact ⟨l, e, h1, h2.ext (Flat.keeps _) he, h3.ext (Flat.keeps _) he⟩
def sealsErr (s : Seals) : Int :=
  if manyErr s.left.length 4 = 0 then
    (if s.every.length = s.left.length then
      (if 0 ≤ s.days ∧ s.days ≤ 10 then (if 0 ≤ s.most ∧ s.most ≤ 4 then (if badL (-1) s.left = true then 1 else if badL 0 s.every = true then 1 else 0) else 1) else 1)
    else 2)
  else manyErr s.left.length 4
theorem Contains_any (v : Value) (xs : List Int) (low : Int) (B : Nat) (w : World) (h : Rd 1 (Flat encI) w v xs) (hB : OwnB w B 3 [.int .i64 low]) :
    CallsVal 127 #[v, .func (.func 128) #[] #[.pointer (some ⟨B, 0, none⟩)]] w (.bool (badL low xs)) := by
  have H := Lib.hid h
  have HB := Lib.hid hB
  clear h hB
  go_enter Try.func127, Try.ntmps127
  go_wp2_with fail
  refine (IndexFunc_any v xs low B w H.out HB.out).mono ?_
  rintro e w1 ⟨rfl, hE⟩
  go_wp2
  go_ret
  exact ⟨rfl, hE⟩
theorem seals1_any (v : Value) (xs : List Int) (low : Int) (w : World) (h : Rd 1 (Flat encI) w v xs) :
    CallsVal 126 #[v, .int .i64 low] w (.bool (badL low xs)) := by
  have H := Lib.hid h
  have HB := Lib.hid (OwnB.laid w 3 [.int .i64 low])
  clear h
  go_enter Try.func126, Try.ntmps126
  go_wp2_with fail
  refine (Contains_any v xs low w.heap.size _ (H.out.ext (Flat.keeps _) (Ext.alloc _ _)) HB.out).mono ?_
  rintro e w1 ⟨rfl, hE⟩
  go_wp2
  go_ret
  exact ⟨rfl, (Ext.alloc _ _).trans hE⟩
set_option maxRecDepth 100000 in
set_option maxHeartbeats 1000000 in
theorem checkSeals_any (v : Value) (s : Seals) (w : World) (h : SealsRd w v s) : CallsInt 80 #[v] w (sealsErr s) := by
  obtain ⟨l, e, rfl, hl, he⟩ := h
  obtain ⟨left, every, most, days⟩ := s
  dsimp only at hl he ⊢
  obtain ⟨A, c, rfl, hA⟩ := hl.form
  obtain ⟨A', c', rfl, hA'⟩ := he.form
  have HB := Lib.hid (OwnB.laid w 52 [.slice A left.length c, .slice A' every.length c', .int .i64 most, .int .i64 days])
  have HL := Lib.hid hl
  have HE := Lib.hid he
  obtain ⟨R, hR⟩ : ∃ R, sealsErr ⟨left, every, most, days⟩ = R := ⟨_, rfl⟩
  rw [hR]
  unfold sealsErr at hR
  dsimp only at hR
  generalize hme : manyErr left.length 4 = me at *
  have HMe := Lib.hid hme
  have HR := Lib.hid hR
  clear hl he hme hR
  go_enter Try.func80, Try.ntmps80
  go_wp2_with fail
  refine (many_any _ _ _).mono ?_
  rintro e w1 ⟨rfl, rfl⟩
  rw [HMe.out]
  have hE := Ext.alloc w (.cells [.slice A left.length c, .slice A' every.length c', .int .i64 most, .int .i64 days].toArray 52)
  have HL1 := Lib.hid (HL.out.ext (Flat.keeps _) hE)
  have HE1 := Lib.hid (HE.out.ext (Flat.keeps _) hE)
  generalize w.alloc (.cells [.slice A left.length c, .slice A' every.length c', .int .i64 most, .int .i64 days].toArray 52) = w1 at *
  have d0 := HB.out.cell (j := 0) rfl
  have d1 := HB.out.cell (j := 1) rfl
  have d2 := HB.out.cell (j := 2) rfl
  have d3 := HB.out.cell (j := 3) rfl
  by_cases h0 : me = 0
  · subst h0
    by_cases h1 : every.length = left.length
    · have hr := HR.out
      rw [if_pos rfl, if_pos h1] at hr
      have HR1 := Lib.hid hr
      have hne : ((every.length : Int) != (left.length : Int)) = false := by simp [h1]
      clear hr HR
      by_cases h2 : 0 ≤ days ∧ days ≤ 10
      · have g1 := h2.1
        have g2 := h2.2
        have hr := HR1.out
        rw [if_pos h2] at hr
        have HR2 := Lib.hid hr
        clear hr HR1 h2
        by_cases h3 : 0 ≤ most ∧ most ≤ 4
        · have g3 := h3.1
          have g4 := h3.2
          have hr := HR2.out
          rw [if_pos h3] at hr
          have HR3 := Lib.hid hr
          clear hr HR2 h3
          go_wp2_with first | (go_at_call 77; go_in)
          refine (seals1_any _ left (-1) w1 HL1.out).mono ?_
          rintro e w2 ⟨rfl, hE2⟩
          have hE3 := hE.trans hE2
          have q1 := (HB.out.ext hE2).cell (j := 1) rfl
          have HE2 := Lib.hid (HE1.out.ext (Flat.keeps _) hE2)
          clear d0 d1 d2 d3 HB hE2
          cases hb : badL (-1) left with
          | true =>
            have hr := HR3.out
            rw [if_pos hb] at hr
            clear hb
            go_wp2
            go_ret
            exact ⟨ret_int (by first | exact hr | rfl | omega), hE3⟩
          | false =>
            have hr := HR3.out
            rw [if_neg (by rw [hb]; simp)] at hr
            have HR4 := Lib.hid hr
            clear hb hr
            rw [h1] at q1
            go_wp2_with fail
            refine (seals1_any _ every 0 w2 (by have := HE2.out; rwa [h1] at this)).mono ?_
            rintro e w3 ⟨rfl, hE4⟩
            have hE5 := hE3.trans hE4
            clear hE4 q1
            cases hb : badL 0 every with
            | true =>
              have hr := HR4.out
              rw [if_pos hb] at hr
              clear hb
              go_wp2
              go_ret
              exact ⟨ret_int (by first | exact hr | rfl | omega), hE5⟩
            | false =>
              have hr := HR4.out
              rw [if_neg (by rw [hb]; simp)] at hr
              clear hb
              go_wp2
              go_ret
              exact ⟨ret_int (by first | exact hr | rfl | omega), hE5⟩
        · have hr := HR2.out
          rw [if_neg h3] at hr
          go_wp2_with first | (go_at_call 77; go_in)
          all_goals (first | (exfalso; omega) | (exfalso; simp only [Bool.not_eq_true', Bool.not_eq_false', decide_eq_true_eq, decide_eq_false_iff_not] at *; omega) | skip)
          all_goals go_ret
          all_goals exact ⟨ret_int (by first | exact hr | rfl | omega), hE⟩
      · have hr := HR1.out
        rw [if_neg h2] at hr
        go_wp2_with first | (go_at_call 77; go_in)
        all_goals (first | (exfalso; omega) | (exfalso; simp only [Bool.not_eq_true', Bool.not_eq_false', decide_eq_true_eq, decide_eq_false_iff_not] at *; omega) | skip)
        all_goals go_ret
        all_goals exact ⟨ret_int (by first | exact hr | rfl | omega), hE⟩
    · have hr := HR.out
      rw [if_pos rfl, if_neg h1] at hr
      have hne : ((every.length : Int) != (left.length : Int)) = true := by simp; omega
      go_wp2_with first | (go_at_call 77; go_in)
      all_goals (first | (exfalso; omega) | (exfalso; simp only [Bool.not_eq_true', Bool.not_eq_false', decide_eq_true_eq, decide_eq_false_iff_not] at *; omega) | skip)
      all_goals go_ret
      all_goals exact ⟨ret_int (by first | exact hr | rfl | omega), hE⟩
  · have hr := HR.out
    rw [if_neg h0] at hr
    go_wp2
    go_ret
    exact ⟨ret_int (by first | exact hr | rfl | omega), hE⟩
end Go.Proofs.Ytebfnjabgkhngaa
end
section
set_option linter.all false
set_option linter.unusedVariables false
set_option linter.unusedSimpArgs false
set_option linter.constructorNameAsVariable false
set_option linter.unusedVariables false
namespace Go.Proofs.Ytebfnjabgkhngaa
open Go.RowKit Go.RT
def cmpI (a b : Int) : Int := if a < b then -1 else if b < a then 1 else 0
def orI : List Int → Int
  | [] => 0
  | x :: l => if x = 0 then orI l else x
theorem Compare_any (a b : Int) (w : World) : CallsInt 131 #[.int .i64 a, .int .i64 b] w (cmpI a b) := by
  obtain ⟨R, hR⟩ : ∃ R, cmpI a b = R := ⟨_, rfl⟩
  rw [hR]
  unfold cmpI at hR
  have HR := Lib.hid hR
  clear hR
  go_enter Try.func131, Try.ntmps131
  by_cases h1 : a < b
  · have hr := HR.out
    rw [if_pos h1] at hr
    go_wp2_with (go_at_call 135; go_in)
    all_goals (first | (exfalso; omega) | skip)
    all_goals go_ret
    all_goals exact ⟨ret_int (by first | exact hr | rfl | omega), Ext.refl _⟩
  · by_cases h2 : b < a
    · have hr := HR.out
      rw [if_neg h1, if_pos h2] at hr
      go_wp2_with (go_at_call 135; go_in)
      all_goals (first | (exfalso; omega) | skip)
      all_goals go_ret
      all_goals exact ⟨ret_int (by first | exact hr | rfl | omega), Ext.refl _⟩
    · have hr := HR.out
      rw [if_neg h1, if_neg h2] at hr
      go_wp2_with (go_at_call 135; go_in)
      all_goals (first | (exfalso; omega) | skip)
      all_goals go_ret
      all_goals exact ⟨ret_int (by first | exact hr | rfl | omega), Ext.refl _⟩
set_option maxRecDepth 100000 in
set_option maxHeartbeats 1000000 in
theorem Or_any (v : Value) (xs : List Int) (w : World) (h : Rd 1 (Flat encI) w v xs) : CallsInt 130 #[v] w (orI xs) := by
  obtain ⟨A, c, rfl, hlen⟩ := h.form
  have H := Lib.hid h
  obtain ⟨R, hR⟩ : ∃ R, orI xs = R := ⟨_, rfl⟩
  rw [hR]
  have HR := Lib.hid hR
  clear h hR
  go_enter Try.func130, Try.ntmps130
  go_wp2
  go_loopw [8] (fun q wr => ∃ k : Nat, q = .int .i64 k ∧ k ≤ xs.length ∧ Ext w wr ∧ orI (xs.drop k) = R) (fun q _ => xs.length - (intOf q).toNat)
  case atStart => exact ⟨0, rfl, Nat.zero_le _, Ext.refl _, HR.out⟩
  case round =>
    obtain ⟨k, rfl, hk, hE, hR⟩ := hrel
    have HK := Lib.hid hR
    clear hR HR
    by_cases hlt : k < xs.length
    · obtain ⟨b, o, rfl, hc⟩ := (H.out.ext (Flat.keeps _) hE).at_ k hlt
      have c0 := hc 0 _ rfl
      simp only [Nat.add_zero, Nat.mul_one] at c0
      have hstep := HK.out
      rw [List.drop_eq_getElem_cons hlt] at hstep
      unfold orI at hstep
      clear hc HK
      generalize xs[k] = x at *
      by_cases hx : x = 0
      · subst hx
        rw [if_pos rfl] at hstep
        have HS := Lib.hid hstep
        clear hstep
        go_wp2
        go_roundw
        case rel => exact ⟨k + 1, by go_num, by omega, hE, HS.out⟩
        case measure => simp [intOf]; omega
      · rw [if_neg hx] at hstep
        have HS := Lib.hid hstep
        clear hstep
        go_wp2
        go_ret
        exact ⟨ret_int HS.out, hE⟩
    · obtain rfl : k = xs.length := by omega
      have hs := HK.out
      rw [List.drop_length] at hs
      have HS2 := Lib.hid hs
      clear hs HK
      go_wp2
      go_ret
      exact ⟨ret_int HS2.out, hE⟩
end Go.Proofs.Ytebfnjabgkhngaa
end
section
set_option linter.all false
set_option linter.unusedVariables false
set_option linter.unusedSimpArgs false
set_option linter.constructorNameAsVariable false
set_option linter.unusedVariables false
namespace Go.Proofs.Ytebfnjabgkhngaa
open Go.RowKit Go.RT
def laterI (x y : D) : Int := orI [cmpI x.1 y.1, cmpI x.2 y.2]
set_option maxRecDepth 100000 in
set_option maxHeartbeats 1000000 in
theorem later_any (x y : D) (w : World) : CallsInt 129 #[.agg #[.int .i64 x.1, .int .i64 x.2], .agg #[.int .i64 y.1, .int .i64 y.2]] w (laterI x y) := by
  obtain ⟨x1, x2⟩ := x
  obtain ⟨y1, y2⟩ := y
  dsimp only
  have hA := (OwnB.laid w 100 [.int .i64 x1, .int .i64 x2]).ext (Ext.alloc _ (.cells [.int .i64 y1, .int .i64 y2].toArray 100))
  have hB := OwnB.laid (w.alloc (.cells [.int .i64 x1, .int .i64 x2].toArray 100)) 100 [.int .i64 y1, .int .i64 y2]
  rw [World.size_alloc] at hB
  have HA := Lib.hid hA
  have HB := Lib.hid hB
  obtain ⟨R, hR⟩ : ∃ R, laterI (x1, x2) (y1, y2) = R := ⟨_, rfl⟩
  rw [hR]
  have HR := Lib.hid (show orI [cmpI x1 y1, cmpI x2 y2] = R from hR)
  clear hA hB hR
  go_enter Try.func129, Try.ntmps129
  go_wp2
  have E0 : Ext w ((w.alloc (.cells [.int .i64 x1, .int .i64 x2].toArray 100)).alloc (.cells [.int .i64 y1, .int .i64 y2].toArray 100)) := (Ext.alloc _ _).trans (Ext.alloc _ _)
  generalize (w.alloc (.cells [.int .i64 x1, .int .i64 x2].toArray 100)).alloc (.cells [.int .i64 y1, .int .i64 y2].toArray 100) = wr at *
  refine region_ext 10 [] (by kernel_rfl) (by kernel_rfl) trivial ?_
  simp only [List.take_succ_cons, List.take_zero, List.drop_succ_cons, List.drop_zero]
  refine wpR_val (v := ?_) ?_ ?_ (fun w1 hS hK => ?_) ?_
  rotate_left
  · rfl
  · rfl
  · clear hK hS
    go_simp
    with_reducible rfl
  simp only [Act.put, List.setIfInBounds_toArray, List.set_cons_zero, List.set_cons_succ]
  refine wpR_val (v := ?_) ?_ ?_ (fun w1 hS hK => ?_) ?_
  rotate_left
  · rfl
  · rfl
  · have E1 := (Ext.refl _).trans hS
    have k0 := (HA.out.ext hS).cell (j := 0) rfl
    have k1 := (HA.out.ext hS).cell (j := 1) rfl
    have k2 := (HB.out.ext hS).cell (j := 0) rfl
    have k3 := (HB.out.ext hS).cell (j := 1) rfl
    clear hK hS E1
    go_simp
    with_reducible rfl
  simp only [Act.put, List.setIfInBounds_toArray, List.set_cons_zero, List.set_cons_succ]
  refine wpR_val (v := ?_) ?_ ?_ (fun w1 hS hK => ?_) ?_
  rotate_left
  · rfl
  · rfl
  · clear hK hS
    go_simp
    with_reducible rfl
  simp only [Act.put, List.setIfInBounds_toArray, List.set_cons_zero, List.set_cons_succ]
  refine wpR_val (v := ?_) ?_ ?_ (fun w1 hS hK => ?_) ?_
  rotate_left
  · rfl
  · rfl
  · have E1 := (Ext.refl _).trans hS
    have k0 := (HA.out.ext hS).cell (j := 0) rfl
    have k1 := (HA.out.ext hS).cell (j := 1) rfl
    have k2 := (HB.out.ext hS).cell (j := 0) rfl
    have k3 := (HB.out.ext hS).cell (j := 1) rfl
    clear hK hS E1
    go_simp
    with_reducible rfl
  simp only [Act.put, List.setIfInBounds_toArray, List.set_cons_zero, List.set_cons_succ]
  refine wpR_call (v := ?_) (f := ?_) (args := ?_) ?_ ?_ (fun w => ?_) ?_ (fun w1 hS hK => ?_) ?_
  rotate_left 3
  · rfl
  · rfl
  · go_simp
    refine ⟨?_, ?_⟩ <;> rfl
  · kernel_rfl
  · exact Compare_any x1 y1 w1
  simp only [Act.put, List.setIfInBounds_toArray, List.set_cons_zero, List.set_cons_succ]
  refine wpR_val (v := ?_) ?_ ?_ (fun w1 hS hK => ?_) ?_
  rotate_left
  · rfl
  · rfl
  · clear hK hS
    go_simp
    with_reducible rfl
  simp only [Act.put, List.setIfInBounds_toArray, List.set_cons_zero, List.set_cons_succ]
  refine wpR_val (v := ?_) ?_ ?_ (fun w1 hS hK => ?_) ?_
  rotate_left
  · rfl
  · rfl
  · have E1 := (Ext.refl _).trans hS
    have k0 := (HA.out.ext hS).cell (j := 0) rfl
    have k1 := (HA.out.ext hS).cell (j := 1) rfl
    have k2 := (HB.out.ext hS).cell (j := 0) rfl
    have k3 := (HB.out.ext hS).cell (j := 1) rfl
    clear hK hS E1
    go_simp
    with_reducible rfl
  simp only [Act.put, List.setIfInBounds_toArray, List.set_cons_zero, List.set_cons_succ]
  refine wpR_val (v := ?_) ?_ ?_ (fun w1 hS hK => ?_) ?_
  rotate_left
  · rfl
  · rfl
  · clear hK hS
    go_simp
    with_reducible rfl
  simp only [Act.put, List.setIfInBounds_toArray, List.set_cons_zero, List.set_cons_succ]
  refine wpR_val (v := ?_) ?_ ?_ (fun w1 hS hK => ?_) ?_
  rotate_left
  · rfl
  · rfl
  · have E1 := (Ext.refl _).trans hS
    have k0 := (HA.out.ext hS).cell (j := 0) rfl
    have k1 := (HA.out.ext hS).cell (j := 1) rfl
    have k2 := (HB.out.ext hS).cell (j := 0) rfl
    have k3 := (HB.out.ext hS).cell (j := 1) rfl
    clear hK hS E1
    go_simp
    with_reducible rfl
  simp only [Act.put, List.setIfInBounds_toArray, List.set_cons_zero, List.set_cons_succ]
  refine wpR_call (v := ?_) (f := ?_) (args := ?_) ?_ ?_ (fun w => ?_) ?_ (fun w1 hS hK => ?_) ?_
  rotate_left 3
  · rfl
  · rfl
  · go_simp
    refine ⟨?_, ?_⟩ <;> rfl
  · kernel_rfl
  · exact Compare_any x2 y2 w1
  simp only [Act.put, List.setIfInBounds_toArray, List.set_cons_zero, List.set_cons_succ]
  intro w2 E2 _
  have E3 := E0.trans E2
  generalize cmpI x1 y1 = p at *
  generalize cmpI x2 y2 = q at *
  clear E2 HA HB
  go_wp2_with fail
  refine (Or_any _ [p, q] _ (rd_flat' (xs := [p, q]) rfl (by simp) (fun _ _ => rfl) (fun j u hu => cell_laid w2 #[.int .i64 p, .int .i64 q] 3 j u hu))).mono ?_
  rintro e w3 ⟨rfl, hE⟩
  rw [HR.out]
  go_wp2
  go_ret
  exact ⟨rfl, (E3.trans (Ext.alloc _ _)).trans hE⟩
end Go.Proofs.Ytebfnjabgkhngaa
end
section
set_option linter.all false
set_option linter.unusedVariables false
set_option linter.unusedSimpArgs false
set_option linter.constructorNameAsVariable false
set_option linter.unusedVariables false
namespace Go.Proofs.Ytebfnjabgkhngaa
open Go.RowKit Go.RT
def compD : List D → List D → Int
  | [], [] => 0
  | [], _ :: _ => -1
  | _ :: _, [] => 1
  | x :: l, y :: m => if laterI x y = 0 then compD l m else laterI x y
set_option maxRecDepth 100000 in
set_option maxHeartbeats 1000000 in
theorem Comp_any (v u : Value) (xs ys : List D) (w : World) (h : Rd 2 (Flat encD) w v xs) (h' : Rd 2 (Flat encD) w u ys) :
    CallsInt 132 #[v, u, .func (.func 129) #[] #[]] w (compD xs ys) := by
  obtain ⟨A, c, rfl, hlen⟩ := h.form
  obtain ⟨A', c', rfl, hlen'⟩ := h'.form
  have H := Lib.hid h
  have H' := Lib.hid h'
  obtain ⟨R, hR⟩ : ∃ R, compD xs ys = R := ⟨_, rfl⟩
  rw [hR]
  have HR := Lib.hid hR
  clear h h' hR
  go_enter Try.func132, Try.ntmps132
  go_wp2
  go_loopw [13] (fun q wr => ∃ k : Nat, q = .int .i64 k ∧ k ≤ xs.length ∧ k ≤ ys.length ∧ Ext w wr ∧ compD (xs.drop k) (ys.drop k) = R) (fun q _ => xs.length - (intOf q).toNat)
  case atStart => exact ⟨0, rfl, Nat.zero_le _, Nat.zero_le _, Ext.refl _, HR.out⟩
  case round =>
    obtain ⟨k, rfl, hk, hk', hE, hR⟩ := hrel
    have HK := Lib.hid hR
    clear hR HR
    by_cases hlt : k < xs.length
    · obtain ⟨b, o, rfl, hc⟩ := (H.out.ext (Flat.keeps _) hE).at_ k hlt
      have c0 := hc 0 _ rfl
      have c1 := hc 1 _ rfl
      simp only [Nat.add_zero] at c0 c1
      have hstep := HK.out
      rw [List.drop_eq_getElem_cons hlt] at hstep
      clear hc HK
      generalize xs[k] = x at *
      by_cases hlt' : k < ys.length
      · obtain ⟨b', o', rfl, hc⟩ := (H'.out.ext (Flat.keeps _) hE).at_ k hlt'
        have e0 := hc 0 _ rfl
        have e1 := hc 1 _ rfl
        simp only [Nat.add_zero] at e0 e1
        have hbl : b' < wr.heap.size := World.block_lt_of_cell? wr _ e0
        rw [List.drop_eq_getElem_cons hlt'] at hstep
        unfold compD at hstep
        clear hc
        generalize ys[k] = y at *
        have HS := Lib.hid hstep
        clear hstep
        go_wp2_with fail
        refine (later_any x y _).mono ?_
        rintro e w1 ⟨rfl, hE1⟩
        have hE2 := ((hE.trans (Ext.alloc _ _)).trans (Ext.alloc _ _)).trans hE1
        have hs := HS.out
        clear c0 c1 e0 e1 hE1 HS
        generalize laterI x y = p at *
        by_cases hp : p = 0
        · subst hp
          rw [if_pos rfl] at hs
          have HS2 := Lib.hid hs
          clear hs
          go_wp2
          go_roundw
          case rel => exact ⟨k + 1, by go_num, by omega, by omega, hE2, HS2.out⟩
          case measure => simp [intOf]; omega
        · rw [if_neg hp] at hs
          have HS2 := Lib.hid hs
          clear hs
          go_wp2
          go_ret
          exact ⟨ret_int (by first | exact HS2.out | rfl | omega), hE2⟩
      · obtain rfl : k = ys.length := by omega
        rw [List.drop_length] at hstep
        have HS2 := Lib.hid (show (1 : Int) = R from hstep)
        clear hstep
        go_wp2
        go_ret
        exact ⟨ret_int HS2.out, hE.trans (Ext.alloc _ _)⟩
    · obtain rfl : k = xs.length := by omega
      have hs := HK.out
      rw [List.drop_length] at hs
      clear HK
      by_cases hlt' : xs.length < ys.length
      · rw [List.drop_eq_getElem_cons hlt'] at hs
        have HS2 := Lib.hid (show (-1 : Int) = R from hs)
        clear hs
        go_wp2
        go_ret
        exact ⟨ret_int HS2.out, hE⟩
      · rw [List.drop_of_length_le (by omega)] at hs
        have HS2 := Lib.hid (show (0 : Int) = R from hs)
        clear hs
        go_wp2
        go_ret
        exact ⟨ret_int HS2.out, hE⟩
end Go.Proofs.Ytebfnjabgkhngaa
end
section
set_option linter.all false
set_option linter.unusedVariables false
set_option linter.unusedSimpArgs false
set_option linter.constructorNameAsVariable false
set_option linter.unusedVariables false
namespace Go.Proofs.Ytebfnjabgkhngaa
open Go.RowKit Go.RT
structure Plan where
  tests : List D
  some : Bool
def PlanRd (w : World) (v : Value) (p : Plan) : Prop := ∃ A c, v = .agg #[.slice A p.tests.length c, .bool p.some] ∧ Rd 2 (Flat encD) w (.slice A p.tests.length c) p.tests
theorem PlanRd.ext {w w' : World} {v : Value} {p : Plan} (h : PlanRd w v p) (he : Ext w w') : PlanRd w' v p := by
  obtain ⟨A, c, h1, h2⟩ := h
  exact ⟨A, c, h1, h2.ext (Flat.keeps _) he⟩
def betterP (a b : Plan) : Bool :=
  if a.some = true ∧ b.some = true then
    (if a.tests.length = b.tests.length then decide (0 < compD a.tests b.tests) else decide (a.tests.length < b.tests.length))
  else a.some
set_option maxRecDepth 100000 in
set_option maxHeartbeats 1000000 in
theorem better_any (v u : Value) (p q : Plan) (w : World) (h : PlanRd w v p) (h' : PlanRd w u q) : CallsVal 83 #[v, u] w (.bool (betterP p q)) := by
  obtain ⟨A, c, rfl, hp⟩ := h
  obtain ⟨A', c', rfl, hq⟩ := h'
  obtain ⟨xs, sx⟩ := p
  obtain ⟨ys, sy⟩ := q
  dsimp only at hp hq ⊢
  have hA := (OwnB.laid w 145 [.slice A xs.length c, .bool sx]).ext (Ext.alloc _ (.cells [.slice A' ys.length c', .bool sy].toArray 145))
  have E0 : Ext w ((w.alloc (.cells [.slice A xs.length c, .bool sx].toArray 145)).alloc (.cells [.slice A' ys.length c', .bool sy].toArray 145)) := (Ext.alloc _ _).trans (Ext.alloc _ _)
  have HP := Lib.hid (hp.ext (Flat.keeps _) E0)
  have HQ := Lib.hid (hq.ext (Flat.keeps _) E0)
  obtain ⟨R, hR⟩ : ∃ R, betterP ⟨xs, sx⟩ ⟨ys, sy⟩ = R := ⟨_, rfl⟩
  rw [hR]
  unfold betterP at hR
  dsimp only at hR
  have HR := Lib.hid hR
  clear hA hp hq hR
  have HE0 := Lib.hid E0
  clear E0
  go_enter Try.func83, Try.ntmps83
  cases sx with
  | false =>
    have hr := HR.out
    rw [if_neg (by simp)] at hr
    have HR1 := Lib.hid hr
    clear hr HR
    go_wp2
    go_ret
    exact ⟨ret_bool HR1.out, HE0.out⟩
  | true =>
    cases sy with
    | false =>
      have hr := HR.out
      rw [if_neg (by simp)] at hr
      have HR1 := Lib.hid hr
      clear hr HR
      go_wp2
      go_ret
      exact ⟨ret_bool HR1.out, HE0.out⟩
    | true =>
      have hr := HR.out
      rw [if_pos ⟨rfl, rfl⟩] at hr
      by_cases hl : xs.length = ys.length
      · rw [if_pos hl] at hr
        have HR2 := Lib.hid hr
        clear hr HR
        have hne : ((xs.length : Int) != (ys.length : Int)) = false := by simp [hl]
        go_wp2_with fail
        have hE := HE0.out
        rw [hl] at hE
        refine (Comp_any _ _ xs ys _ (by have := HP.out; rwa [hl] at this) (by have := HQ.out; rwa [hl] at this)).mono ?_
        rintro e w1 ⟨rfl, hE1⟩
        have hE2 := hE.trans hE1
        clear hE hE1 HP HQ HE0
        generalize compD xs ys = p at *
        go_wp2
        go_ret
        exact ⟨ret_bool HR2.out, hE2⟩
      · rw [if_neg hl] at hr
        have HR2 := Lib.hid (show decide ((xs.length : Int) < (ys.length : Int)) = R by rw [← hr]; congr 1; simp)
        clear hr HR
        have hne : ((xs.length : Int) != (ys.length : Int)) = true := by simp; omega
        go_wp2
        go_ret
        exact ⟨ret_bool (by have := HR2.out; simpa using this), HE0.out⟩
end Go.Proofs.Ytebfnjabgkhngaa
end
