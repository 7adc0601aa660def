/-
The statement ScaleLasts: proved for every input. Part 3 of 11.
-/
import Derived.LoopIn
import Derived.LoopNIn
import Derived.OwnWalkIn
import Derived.RangeFuncBound
import Derived.RangeFuncCalls
import Derived.RangeFuncFrom
import Derived.RangeFuncLeaves
import Derived.RangeFuncNested
import Derived.Shelf.Abstract
import Derived.TacticsInMore
import Derived.Test.YtebfnjabgkhngaaLa2
section
set_option linter.all false
set_option linter.unusedVariables false
set_option linter.unusedSimpArgs false
set_option linter.constructorNameAsVariable false
set_option linter.unusedVariables false
namespace Go.Proofs.Ytebfnjabgkhngaa
open Go.RowKit Go.RT
abbrev But (k : Nat) (w w' : World) : Prop := w.grownBy w' (some k)
theorem OwnB.but {w w' : World} {b k : Nat} {T : TypeId} {cs : List Value} (h : OwnB w b T cs) (hne : b ≠ k) (he : But k w w') : OwnB w' b T cs :=
  (he.block b h.lt (by intro e; cases e; exact hne rfl)).trans h
theorem But.ext {w0 w w' : World} {k : Nat} (h : Ext w0 w) (he : But k w w') (hk : w0.heap.size ≤ k) : Ext w0 w' :=
  ⟨he.os.trans h.os, he.tape.trans h.tape, he.output.trans h.output, Nat.le_trans h.size he.size, fun b hb => (he.block b (by have := h.size; omega) (by intro e; cases e; omega)).trans (h.block b hb)⟩
theorem but_of {w w' : World} {k : Nat} (h : Ext w w') (v : Value) (hk : k < w.heap.size) : But k w (w'.setCell ⟨k, 0, none⟩ v) :=
  ⟨h.os, h.tape, h.output, by rw [World.size_setCell]; exact h.size, fun b hb hne => by
    rw [Below.heap_setCell _ _ _ _ (by intro e; exact hne (by rw [e]))]
    exact h.block b hb⟩
structure Fact where
  i : Nat
  j : Nat
  d : D
def Chain (n : Nat) : List Fact → List (List D) → List (List D) → Prop
  | [], t, t' => t = t'
  | f :: l, t, t' => f.i < n ∧ f.j < n ∧ Bd f.d ∧ TabBd n t ∧ ∃ t1, withT n t f.i f.j f.d = some t1 ∧ Chain n l t1 t'
set_option maxHeartbeats 1000000 in
theorem know_any (n : Nat) (v : Value) (t t' : List (List D)) (f : Fact) (tb : Nat) (w : World) (hn : n ≤ 1000) (hi : f.i < n) (hj : f.j < n) (hd : Bd f.d) (hbd : TabBd n t) (ht : TabRd n w v t) (hw : withT n t f.i f.j f.d = some t') (ho : OwnB w tb 122 [v]) :
    Calls Try.prog 122 #[.agg #[.int .i64 f.i, .int .i64 f.j, .int .i64 f.d.1, .int .i64 f.d.2], .pointer (some ⟨tb, 0, none⟩)] w fun e w' =>
      e = .returned (.tuple #[]) ∧ (∃ v', TabRd n w' v' t' ∧ OwnB w' tb 122 [v']) ∧ But tb w w' := by
  obtain ⟨i, j, lo, hi2⟩ := f
  have hl := ho.lt
  have c0 := ho.cell (j := 0) rfl
  have f0 := ho.frozen 0
  have HW := Lib.hid hw
  have HO := Lib.hid ho
  have HT := Lib.hid ht
  have HB := Lib.hid hbd
  have HD := Lib.hid hd
  obtain ⟨A, c, hv, _⟩ := ht.1.form
  rw [ht.2.1] at hv
  subst hv
  clear hw ho ht hbd hd
  go_enter Try.func122, Try.ntmps122
  go_wp2_with fail
  have hd := HD.out
  refine (with_any n _ t i j lo hi2 _ hn hi hj (HT.out.ext (Ext.alloc _ _)) HB.out hd.1 hd.2.1 hd.2.2.1 hd.2.2.2).mono ?_
  rintro e w1 ⟨hp, hE⟩
  rw [show withT n t i j (lo, hi2) = some t' from HW.out] at hp
  obtain ⟨v', rfl, hv'⟩ := hp
  have hE1 := (Ext.alloc _ _).trans hE
  have k0 := (HO.out.ext hE1).cell (j := 0) rfl
  have g0 := (HO.out.ext hE1).frozen 0
  have HV := Lib.hid (hv'.mono (base' := tb + 1) (by simp; omega))
  obtain ⟨A', c', rfl, _⟩ := (hv'.rd (by omega)).1.form
  have hE2 := Lib.hid hE1
  have hO1 := Lib.hid (HO.out.ext hE1)
  clear hv' c0 f0 hE hd hE1
  go_wp2
  go_end0
  refine ⟨rfl, ⟨_, ?_, hO1.out.set 0 _⟩, but_of hE2.out _ hl⟩
  exact (HV.out.other (by omega) _ _).rd (by omega)
def massIx (k : Nat) : Nat := 1 + k
def dayIx (nm dd s d : Nat) : Nat := 1 + nm + s * (dd + 1) + d
theorem massN (m ws s t : Value) (days : Int) (k : Nat) (w : World) (h2 : k ≤ 1000) :
    CallsInt 86 #[.agg #[m, ws, s, t, .int .i64 days], .int .i64 k] w (massIx k) := by
  refine (massAt_any m ws s t days k w (by omega) (by omega)).mono ?_
  rintro e w' ⟨rfl, hE⟩
  exact ⟨ret_int (by unfold massIx; omega), hE⟩
theorem dayN (A : Option Addr) (k c : Nat) (ws s t : Value) (dd sc d : Nat) (w : World) (hk : k ≤ 1000) (h2 : sc ≤ 1000) (h4 : dd ≤ 1000) (h6 : d ≤ 1000) :
    CallsInt 117 #[.agg #[.slice A k c, ws, s, t, .int .i64 dd], .int .i64 sc, .int .i64 d] w (dayIx k dd sc d) := by
  refine (dayAt_any A k c ws s t dd sc d w (by omega) (by omega) (by omega) (by omega) (by omega) (by omega) (by omega)).mono ?_
  rintro e w' ⟨rfl, hE⟩
  exact ⟨ret_int (by unfold dayIx; simp), hE⟩
theorem dayN1 (A : Option Addr) (k c : Nat) (ws s t : Value) (dd sc d : Nat) (w : World) (hk : k ≤ 1000) (h2 : sc ≤ 1000) (h4 : dd ≤ 1000) (h6 : d + 1 ≤ 1000) :
    CallsInt 117 #[.agg #[.slice A k c, ws, s, t, .int .i64 dd], .int .i64 sc, .int .i64 ((d : Int) + 1)] w (dayIx k dd sc (d + 1)) := by
  have := dayN A k c ws s t dd sc (d + 1) w hk h2 h4 h6
  rwa [show ((d + 1 : Nat) : Int) = (d : Int) + 1 from by omega] at this
def massFrom : Nat → List Mass → List Fact
  | _, [] => []
  | k, m :: l => ⟨0, massIx k, (m.lo, m.hi)⟩ :: massFrom (k + 1) l
def driftsFrom (nm dd s : Nat) (x : Scale) (d : Nat) : List Fact := (List.range' d (dd - d)).map fun d => ⟨dayIx nm dd s d, dayIx nm dd s (d + 1), turn2 (x.dlo, x.dhi)⟩
def scalesFrom (nm dd : Nat) : Nat → List Scale → List Fact
  | _, [] => []
  | s, x :: l => ⟨0, dayIx nm dd s 0, turn2 (x.flo, x.fhi)⟩ :: (driftsFrom nm dd s x 0 ++ scalesFrom nm dd (s + 1) l)
def startFacts (b : Bench) (dd : Nat) : List Fact := massFrom 0 b.masses ++ scalesFrom b.masses.length dd 0 b.scales
theorem massFrom_drop (l : List Mass) (k : Nat) (h : k < l.length) : massFrom k (l.drop k) = ⟨0, massIx k, (l[k].lo, l[k].hi)⟩ :: massFrom (k + 1) (l.drop (k + 1)) := by
  rw [List.drop_eq_getElem_cons h]; rfl
theorem scalesFrom_drop (nm dd : Nat) (l : List Scale) (k : Nat) (h : k < l.length) : scalesFrom nm dd k (l.drop k) = ⟨0, dayIx nm dd k 0, turn2 (l[k].flo, l[k].fhi)⟩ :: (driftsFrom nm dd k l[k] 0 ++ scalesFrom nm dd (k + 1) (l.drop (k + 1))) := by
  rw [List.drop_eq_getElem_cons h]; rfl
theorem driftsFrom_step (nm dd s : Nat) (x : Scale) (d : Nat) (h : d < dd) : driftsFrom nm dd s x d = ⟨dayIx nm dd s d, dayIx nm dd s (d + 1), turn2 (x.dlo, x.dhi)⟩ :: driftsFrom nm dd s x (d + 1) := by
  unfold driftsFrom
  rw [show dd - d = (dd - (d + 1)) + 1 by omega, List.range'_succ]
  rfl
theorem driftsFrom_end (nm dd s : Nat) (x : Scale) : driftsFrom nm dd s x dd = [] := by simp [driftsFrom]
set_option maxRecDepth 100000 in
set_option maxHeartbeats 1000000 in
theorem start_any (b : Bench) (dd N : Nat) (v : Value) (tf : List (List D)) (w : World) (h : BenchRd w v b) (hm5 : b.masses.length ≤ 5) (hs3 : b.scales.length ≤ 3) (hdd : b.days = dd) (hdd8 : dd ≤ 8) (hN : dayIx b.masses.length dd b.scales.length 0 = N) (hch : Chain N (startFacts b dd) (blankT N) tf) :
    Calls Try.prog 69 #[v] w fun e w' => ∃ v', e = .returned v' ∧ TabRd N w' v' tf ∧ Ext w w' := by
  obtain ⟨m, ws, s, t, rfl, hm, hw, hs, ht⟩ := h
  obtain ⟨A1, c1, rfl, _⟩ := hm.form
  obtain ⟨A3, c3, rfl, _⟩ := hs.form
  rw [hdd]
  have hN33 : N ≤ 1000 := by
    have : b.scales.length * (dd + 1) ≤ 3 * 9 := Nat.mul_le_mul hs3 (by omega)
    unfold dayIx at hN
    omega
  have HN := Lib.hid hN
  have HCh := Lib.hid hch
  have HM := Lib.hid hm
  have HS := Lib.hid hs
  clear hN hch hm hs hw ht hdd
  generalize hnm : b.masses.length = nm at *
  generalize hns : b.scales.length = ns at *
  have Hnm := Lib.hid hnm
  have Hns := Lib.hid hns
  clear hnm hns
  have HB0 := Lib.hid (OwnB.laid w 111 [.slice A1 nm c1, ws, .slice A3 ns c3, t, .int .i64 dd])
  go_enter Try.func69, Try.ntmps69
  go_wp2_with fail
  refine (dayN A1 nm c1 ws (.slice A3 ns c3) t dd ns 0 _ (by omega) (by omega) (by omega) (by omega)).mono ?_
  rintro e w1 ⟨rfl, hE1⟩
  rw [HN.out]
  go_wp2_with fail
  refine (blank_any N _ hN33).mono ?_
  rintro e w2 ⟨v0, rfl, hown, hE2⟩
  have hE := ((Ext.alloc _ _).trans hE1).trans hE2
  have HB2 := Lib.hid (HB0.out.ext (hE1.trans hE2))
  have HT2 := hown.rd (by omega)
  obtain ⟨A0, c0, hv0, _⟩ := HT2.1.form
  rw [HT2.2.1] at hv0
  subst hv0
  have HT2 := Lib.hid HT2
  have hsz : w.heap.size < w2.heap.size := by have := hE1.size; have := hE2.size; simp at *; omega
  clear hown hE1 hE2 HB0
  have d0 := HB2.out.cell (j := 0) rfl
  have d1 := HB2.out.cell (j := 1) rfl
  have d2 := HB2.out.cell (j := 2) rfl
  have d3 := HB2.out.cell (j := 3) rfl
  have d4 := HB2.out.cell (j := 4) rfl
  go_wp2
  go_loopw [22] (fun q wr => ∃ (k : Nat) (tc : List (List D)), q = .int .i64 k ∧ k ≤ nm ∧ Ext w wr ∧ OwnB wr w.heap.size 111 [.slice A1 nm c1, ws, .slice A3 ns c3, t, .int .i64 dd] ∧ (∃ u, OwnB wr w2.heap.size 122 [u] ∧ TabRd N wr u tc) ∧ Chain N (massFrom k (b.masses.drop k) ++ scalesFrom nm dd 0 b.scales) tc tf) (fun q _ => nm - (intOf q).toNat)
  case atStart =>
    refine ⟨0, blankT N, rfl, Nat.zero_le _, hE.trans (Ext.alloc _ _), HB2.out.ext (Ext.alloc _ _), ⟨_, OwnB.laid w2 122 [_], HT2.out.ext (Ext.alloc _ _)⟩, ?_⟩
    have := HCh.out
    unfold startFacts at this
    rw [Hnm.out] at this
    exact this
  case round =>
    clear d0 d1 d2 d3 d4 HB2 HT2 HCh hE
    obtain ⟨k, tc, rfl, hk, hE, hB, ⟨u, hT, hTr⟩, hC⟩ := hrel
    have hBl := hB.lt
    have hTl := hT.lt
    have HB := Lib.hid hB
    have HT := Lib.hid hT
    have HTr := Lib.hid hTr
    clear hB hT hTr
    by_cases hlt : k < nm
    · have hlt' : k < b.masses.length := by have := Hnm.out; omega
      rw [massFrom_drop b.masses k hlt'] at hC
      obtain ⟨g1, g2, g3, g4, tn, g5, g6⟩ := hC
      obtain ⟨bb, oo, rfl, hc⟩ := (HM.out.ext (Flat.keeps _) hE).at_ k hlt'
      have m0 := hc 0 _ rfl
      have m1 := hc 1 _ rfl
      have m2 := hc 2 _ rfl
      simp only [Nat.add_zero] at m0 m1 m2
      clear hc
      generalize b.masses[k] = x at *
      obtain ⟨nom, lo, hi⟩ := x
      simp only at m0 m1 m2 g3 g5
      have G1 := Lib.hid g1
      have G2 := Lib.hid g2
      have G3 := Lib.hid g3
      have G4 := Lib.hid g4
      have G5 := Lib.hid g5
      have G6 := Lib.hid g6
      clear g1 g2 g3 g4 g5 g6 hlt'
      go_wp2
      have HMb := Lib.hid (OwnB.laid wr 92 [.int .i64 nom, .int .i64 lo, .int .i64 hi])
      refine region_ext 8 [] (by kernel_rfl) (by kernel_rfl) trivial ?_
      simp only [List.take_succ_cons, List.take_zero, List.drop_succ_cons, List.drop_zero]
      refine wpR_val (v := ?_) ?_ ?_ (fun w1 hS hK => ?_) ?_
      rotate_left
      · rfl
      · rfl
      · clear hK hS
        go_simp
        with_reducible rfl
      simp only [Act.put, List.setIfInBounds_toArray, List.set_cons_zero, List.set_cons_succ]
      refine wpR_val (v := ?_) ?_ ?_ (fun w1 hS hK => ?_) ?_
      rotate_left
      · rfl
      · rfl
      · have E1 := (hE.trans (Ext.alloc _ _)).trans hS
        have k0 := ((HB.out.ext (Ext.alloc _ _)).ext hS).cell (j := 0) rfl
        have k1 := ((HB.out.ext (Ext.alloc _ _)).ext hS).cell (j := 1) rfl
        have k2 := ((HB.out.ext (Ext.alloc _ _)).ext hS).cell (j := 2) rfl
        have k3 := ((HB.out.ext (Ext.alloc _ _)).ext hS).cell (j := 3) rfl
        have k4 := ((HB.out.ext (Ext.alloc _ _)).ext hS).cell (j := 4) rfl
        have k5 := (HMb.out.ext hS).cell (j := 1) rfl
        have k6 := (HMb.out.ext hS).cell (j := 2) rfl
        clear hK hS E1
        go_simp
        with_reducible rfl
      simp only [Act.put, List.setIfInBounds_toArray, List.set_cons_zero, List.set_cons_succ]
      refine wpR_val (v := ?_) ?_ ?_ (fun w1 hS hK => ?_) ?_
      rotate_left
      · rfl
      · rfl
      · clear hK hS
        go_simp
        with_reducible rfl
      simp only [Act.put, List.setIfInBounds_toArray, List.set_cons_zero, List.set_cons_succ]
      refine wpR_call (v := ?_) (f := ?_) (args := ?_) ?_ ?_ (fun w => ?_) ?_ (fun w1 hS hK => ?_) ?_
      rotate_left 3
      · rfl
      · rfl
      · go_simp
        refine ⟨?_, ?_⟩ <;> rfl
      · kernel_rfl
      · exact massN (.slice (some ⟨bb, oo, none⟩) nm c1) ws (.slice A3 ns c3) t dd k w1 (by omega)
      simp only [Act.put, List.setIfInBounds_toArray, List.set_cons_zero, List.set_cons_succ]
      refine wpR_val (v := ?_) ?_ ?_ (fun w1 hS hK => ?_) ?_
      rotate_left
      · rfl
      · rfl
      · clear hK hS
        go_simp
        with_reducible rfl
      simp only [Act.put, List.setIfInBounds_toArray, List.set_cons_zero, List.set_cons_succ]
      refine wpR_val (v := ?_) ?_ ?_ (fun w1 hS hK => ?_) ?_
      rotate_left
      · rfl
      · rfl
      · have E1 := (hE.trans (Ext.alloc _ _)).trans hS
        have k0 := ((HB.out.ext (Ext.alloc _ _)).ext hS).cell (j := 0) rfl
        have k1 := ((HB.out.ext (Ext.alloc _ _)).ext hS).cell (j := 1) rfl
        have k2 := ((HB.out.ext (Ext.alloc _ _)).ext hS).cell (j := 2) rfl
        have k3 := ((HB.out.ext (Ext.alloc _ _)).ext hS).cell (j := 3) rfl
        have k4 := ((HB.out.ext (Ext.alloc _ _)).ext hS).cell (j := 4) rfl
        have k5 := (HMb.out.ext hS).cell (j := 1) rfl
        have k6 := (HMb.out.ext hS).cell (j := 2) rfl
        clear hK hS E1
        go_simp
        with_reducible rfl
      simp only [Act.put, List.setIfInBounds_toArray, List.set_cons_zero, List.set_cons_succ]
      refine wpR_call (v := ?_) (f := ?_) (args := ?_) ?_ ?_ (fun w => ?_) ?_ (fun w1 hS hK => ?_) ?_
      rotate_left 3
      · rfl
      · rfl
      · go_simp
        refine ⟨?_, ?_⟩ <;> rfl
      · kernel_rfl
      · exact pair_any _ _ _
      simp only [Act.put, List.setIfInBounds_toArray, List.set_cons_zero, List.set_cons_succ]
      refine wpR_val (v := ?_) ?_ ?_ (fun w1 hS hK => ?_) ?_
      rotate_left
      · rfl
      · rfl
      · clear hK hS
        go_simp
        with_reducible rfl
      simp only [Act.put, List.setIfInBounds_toArray, List.set_cons_zero, List.set_cons_succ]
      intro w3 E3 _
      go_wp2_with fail
      refine (know_any N u tc tn ⟨0, massIx k, (lo, hi)⟩ w2.heap.size _ hN33 G1.out G2.out G3.out G4.out (HTr.out.ext ((Ext.alloc _ _).trans E3)) G5.out (HT.out.ext ((Ext.alloc _ _).trans E3))).mono ?_
      rintro e w4 ⟨rfl, ⟨u', hTr', hT'⟩, hBut⟩
      have hE4 := hBut.ext (hE.trans ((Ext.alloc _ _).trans E3)) (Nat.le_of_lt hsz)
      have hB4 := Lib.hid ((HB.out.ext ((Ext.alloc _ _).trans E3)).but (by omega) hBut)
      have HTr' := Lib.hid hTr'
      have HT' := Lib.hid hT'
      have HE4 := Lib.hid hE4
      clear hTr' hT' hBut E3 hE4 HB HT HTr hE
      go_wp2
      go_roundw
      case rel => exact ⟨k + 1, tn, by go_num, by omega, HE4.out, hB4.out, ⟨u', HT'.out, HTr'.out⟩, G6.out⟩
      case measure => simp [intOf]; omega
    · obtain rfl : k = nm := by omega
      have hC' : Chain N (scalesFrom k dd 0 b.scales) tc tf := by
        rw [List.drop_of_length_le (by have := Hnm.out; omega)] at hC
        exact hC
      have HC := Lib.hid hC'
      clear hC hC'
      have d0 := HB.out.cell (j := 0) rfl
      have d1 := HB.out.cell (j := 1) rfl
      have d2 := HB.out.cell (j := 2) rfl
      have d3 := HB.out.cell (j := 3) rfl
      have d4 := HB.out.cell (j := 4) rfl
      go_wp2
      go_loopw [41] (fun q wr => ∃ (i : Nat) (tc : List (List D)), q = .int .i64 i ∧ i ≤ ns ∧ Ext w wr ∧ OwnB wr w.heap.size 111 [.slice A1 k c1, ws, .slice A3 ns c3, t, .int .i64 dd] ∧ (∃ u, OwnB wr w2.heap.size 122 [u] ∧ TabRd N wr u tc) ∧ Chain N (scalesFrom k dd i (b.scales.drop i)) tc tf) (fun q _ => ns - (intOf q).toNat)
      case atStart => exact ⟨0, tc, rfl, Nat.zero_le _, hE, HB.out, ⟨u, HT.out, HTr.out⟩, HC.out⟩
      case round =>
        clear d0 d1 d2 d3 d4 HB HT HTr HC hE hBl hTl
        obtain ⟨i, tc, rfl, hi, hE, hB, ⟨u, hT, hTr⟩, hC⟩ := hrel
        have hBl := hB.lt
        have hTl := hT.lt
        have HB := Lib.hid hB
        have HT := Lib.hid hT
        have HTr := Lib.hid hTr
        clear hB hT hTr
        by_cases hlt : i < ns
        · have hlt' : i < b.scales.length := by have := Hns.out; omega
          rw [scalesFrom_drop k dd b.scales i hlt'] at hC
          obtain ⟨g1, g2, g3, g4, tn, g5, g6⟩ := hC
          obtain ⟨bb, oo, rfl, hc⟩ := (HS.out.ext (Flat.keeps _) hE).at_ i hlt'
          have m0 := hc 0 _ rfl
          have m1 := hc 1 _ rfl
          have m2 := hc 2 _ rfl
          have m3 := hc 3 _ rfl
          simp only [Nat.add_zero] at m0 m1 m2 m3
          clear hc
          generalize b.scales[i] = x at *
          obtain ⟨flo, fhi, dlo, dhi⟩ := x
          simp only at m0 m1 m2 m3 g3 g5
          have G1 := Lib.hid g1
          have G2 := Lib.hid g2
          have G3 := Lib.hid g3
          have G4 := Lib.hid g4
          have G5 := Lib.hid g5
          have G6 := Lib.hid g6
          clear g1 g2 g3 g4 g5 g6 hlt'
          go_wp2
          have HMb := Lib.hid (OwnB.laid wr 95 [.int .i64 flo, .int .i64 fhi, .int .i64 dlo, .int .i64 dhi])
          have HBd0 : Hid (Bd (flo, fhi)) := Lib.hid (by have := G3.out; unfold Bd turn2 at *; dsimp only at *; omega)
          refine region_ext 9 [] (by kernel_rfl) (by kernel_rfl) trivial ?_
          simp only [List.take_succ_cons, List.take_zero, List.drop_succ_cons, List.drop_zero]
          refine wpR_val (v := ?_) ?_ ?_ (fun w1 hS hK => ?_) ?_
          rotate_left
          · rfl
          · rfl
          · clear hK hS
            go_simp
            with_reducible rfl
          simp only [Act.put, List.setIfInBounds_toArray, List.set_cons_zero, List.set_cons_succ]
          refine wpR_val (v := ?_) ?_ ?_ (fun w1 hS hK => ?_) ?_
          rotate_left
          · rfl
          · rfl
          · have E1 := (hE.trans (Ext.alloc _ _)).trans hS
            have k0 := ((HB.out.ext (Ext.alloc _ _)).ext hS).cell (j := 0) rfl
            have k1 := ((HB.out.ext (Ext.alloc _ _)).ext hS).cell (j := 1) rfl
            have k2 := ((HB.out.ext (Ext.alloc _ _)).ext hS).cell (j := 2) rfl
            have k3 := ((HB.out.ext (Ext.alloc _ _)).ext hS).cell (j := 3) rfl
            have k4 := ((HB.out.ext (Ext.alloc _ _)).ext hS).cell (j := 4) rfl
            have k5 := (HMb.out.ext hS).cell (j := 0) rfl
            have k6 := (HMb.out.ext hS).cell (j := 1) rfl
            clear hK hS E1
            go_simp
            with_reducible rfl
          simp only [Act.put, List.setIfInBounds_toArray, List.set_cons_zero, List.set_cons_succ]
          refine wpR_val (v := ?_) ?_ ?_ (fun w1 hS hK => ?_) ?_
          rotate_left
          · rfl
          · rfl
          · clear hK hS
            go_simp
            with_reducible rfl
          simp only [Act.put, List.setIfInBounds_toArray, List.set_cons_zero, List.set_cons_succ]
          refine wpR_call (v := ?_) (f := ?_) (args := ?_) ?_ ?_ (fun w => ?_) ?_ (fun w1 hS hK => ?_) ?_
          rotate_left 3
          · rfl
          · rfl
          · go_simp
            refine ⟨?_, ?_⟩ <;> rfl
          · kernel_rfl
          · exact dayN A1 k c1 ws (.slice (some ⟨bb, oo, none⟩) ns c3) t dd i 0 w1 (by omega) (by omega) (by omega) (by omega)
          simp only [Act.put, List.setIfInBounds_toArray, List.set_cons_zero, List.set_cons_succ]
          refine wpR_val (v := ?_) ?_ ?_ (fun w1 hS hK => ?_) ?_
          rotate_left
          · rfl
          · rfl
          · clear hK hS
            go_simp
            with_reducible rfl
          simp only [Act.put, List.setIfInBounds_toArray, List.set_cons_zero, List.set_cons_succ]
          refine wpR_val (v := ?_) ?_ ?_ (fun w1 hS hK => ?_) ?_
          rotate_left
          · rfl
          · rfl
          · have E1 := (hE.trans (Ext.alloc _ _)).trans hS
            have k0 := ((HB.out.ext (Ext.alloc _ _)).ext hS).cell (j := 0) rfl
            have k1 := ((HB.out.ext (Ext.alloc _ _)).ext hS).cell (j := 1) rfl
            have k2 := ((HB.out.ext (Ext.alloc _ _)).ext hS).cell (j := 2) rfl
            have k3 := ((HB.out.ext (Ext.alloc _ _)).ext hS).cell (j := 3) rfl
            have k4 := ((HB.out.ext (Ext.alloc _ _)).ext hS).cell (j := 4) rfl
            have k5 := (HMb.out.ext hS).cell (j := 0) rfl
            have k6 := (HMb.out.ext hS).cell (j := 1) rfl
            clear hK hS E1
            go_simp
            with_reducible rfl
          simp only [Act.put, List.setIfInBounds_toArray, List.set_cons_zero, List.set_cons_succ]
          refine wpR_call (v := ?_) (f := ?_) (args := ?_) ?_ ?_ (fun w => ?_) ?_ (fun w1 hS hK => ?_) ?_
          rotate_left 3
          · rfl
          · rfl
          · go_simp
            refine ⟨?_, ?_⟩ <;> rfl
          · kernel_rfl
          · exact pair_any flo fhi w1
          simp only [Act.put, List.setIfInBounds_toArray, List.set_cons_zero, List.set_cons_succ]
          refine wpR_call (v := ?_) (f := ?_) (args := ?_) ?_ ?_ (fun w => ?_) ?_ (fun w1 hS hK => ?_) ?_
          rotate_left 3
          · rfl
          · rfl
          · go_simp
            refine ⟨?_, ?_⟩ <;> rfl
          · kernel_rfl
          · exact turnD (flo, fhi) w1 HBd0.out
          simp only [Act.put, List.setIfInBounds_toArray, List.set_cons_zero, List.set_cons_succ]
          refine wpR_val (v := ?_) ?_ ?_ (fun w1 hS hK => ?_) ?_
          rotate_left
          · rfl
          · rfl
          · clear hK hS
            go_simp
            with_reducible rfl
          simp only [Act.put, List.setIfInBounds_toArray, List.set_cons_zero, List.set_cons_succ]
          intro w3 E3 _
          go_wp2_with fail
          refine (know_any N u tc tn ⟨0, dayIx k dd i 0, turn2 (flo, fhi)⟩ w2.heap.size _ hN33 G1.out G2.out G3.out G4.out (HTr.out.ext ((Ext.alloc _ _).trans E3)) G5.out (HT.out.ext ((Ext.alloc _ _).trans E3))).mono ?_
          rintro e w4 ⟨rfl, ⟨u', hTr', hT'⟩, hBut⟩
          have hE4 := hBut.ext (hE.trans ((Ext.alloc _ _).trans E3)) (Nat.le_of_lt hsz)
          have hB4 := Lib.hid ((HB.out.ext ((Ext.alloc _ _).trans E3)).but (by omega) hBut)
          have hM4 := Lib.hid ((HMb.out.ext E3).but (by omega) hBut)
          have HTr' := Lib.hid hTr'
          have HT' := Lib.hid hT'
          have HE4 := Lib.hid hE4
          have hwl : wr.heap.size < w4.heap.size := hM4.out.lt
          have hTo := hTl
          clear hTr' hT' hBut E3 hE4 HB HT HTr hE m0 m1 m2 m3 HMb hBl hTl G1 G2 G3 G4 G5 HBd0
          have e0 := hB4.out.cell (j := 4) rfl
          have hB4l := hB4.out.lt
          go_wp2
          obtain ⟨wo, hwo⟩ : ∃ wo : World, wo = wr := ⟨_, rfl⟩
          rw [← hwo] at hM4 hwl hTo ⊢
          clear hwo
          go_loopw [59] (fun q wr => ∃ (d : Nat) (tc : List (List D)), q = .int .i64 d ∧ d ≤ dd ∧ Ext w wr ∧ OwnB wr w.heap.size 111 [.slice A1 k c1, ws, .slice (some ⟨bb, oo, none⟩) ns c3, t, .int .i64 dd] ∧ OwnB wr wo.heap.size 95 [.int .i64 flo, .int .i64 fhi, .int .i64 dlo, .int .i64 dhi] ∧ (∃ u, OwnB wr w2.heap.size 122 [u] ∧ TabRd N wr u tc) ∧ Chain N (driftsFrom k dd i ⟨flo, fhi, dlo, dhi⟩ d ++ scalesFrom k dd (i + 1) (b.scales.drop (i + 1))) tc tf) (fun q _ => dd - (intOf q).toNat)
          case atStart => exact ⟨0, tn, rfl, Nat.zero_le _, HE4.out, hB4.out, hM4.out, ⟨u', HT'.out, HTr'.out⟩, G6.out⟩
          case round =>
            clear e0 hB4 hM4 HT' HTr' HE4 G6 hB4l hwl
            obtain ⟨d, tc, rfl, hd, hE, hB, hM, ⟨u, hT, hTr⟩, hC⟩ := hrel
            have hBl := hB.lt
            have hTl := hT.lt
            have hMl := hM.lt
            have HB := Lib.hid hB
            have HM2 := Lib.hid hM
            have HT := Lib.hid hT
            have HTr := Lib.hid hTr
            clear hB hT hTr hM
            by_cases hld : d < dd
            · rw [driftsFrom_step k dd i _ d hld] at hC
              obtain ⟨g1, g2, g3, g4, tn, g5, g6⟩ := hC
              simp only at g3 g5
              have G1 := Lib.hid g1
              have G2 := Lib.hid g2
              have G3 := Lib.hid g3
              have G4 := Lib.hid g4
              have G5 := Lib.hid g5
              have G6 := Lib.hid g6
              clear g1 g2 g3 g4 g5 g6
              have HBd0 : Hid (Bd (dlo, dhi)) := Lib.hid (by have := G3.out; unfold Bd turn2 at *; dsimp only at *; omega)
              have HWr : Hid (IntKind.i64.wrap ((d : Int) + 1) = (d : Int) + 1) := Lib.hid (by rw [IntKind.wrap_i64]; omega)
              go_wp2
              refine region_ext 15 [] (by kernel_rfl) (by kernel_rfl) trivial ?_
              simp only [List.take_succ_cons, List.take_zero, List.drop_succ_cons, List.drop_zero]
              refine wpR_val (v := ?_) ?_ ?_ (fun w1 hS hK => ?_) ?_
              rotate_left
              · rfl
              · rfl
              · clear hK hS
                go_simp
                with_reducible rfl
              simp only [Act.put, List.setIfInBounds_toArray, List.set_cons_zero, List.set_cons_succ]
              refine wpR_val (v := ?_) ?_ ?_ (fun w1 hS hK => ?_) ?_
              rotate_left
              · rfl
              · rfl
              · have E1 := (hE).trans hS
                have k0 := (HB.out.ext hS).cell (j := 0) rfl
                have k1 := (HB.out.ext hS).cell (j := 1) rfl
                have k2 := (HB.out.ext hS).cell (j := 2) rfl
                have k3 := (HB.out.ext hS).cell (j := 3) rfl
                have k4 := (HB.out.ext hS).cell (j := 4) rfl
                have k5 := (HM2.out.ext hS).cell (j := 2) rfl
                have k6 := (HM2.out.ext hS).cell (j := 3) rfl
                clear hK hS E1
                go_simp
                with_reducible rfl
              simp only [Act.put, List.setIfInBounds_toArray, List.set_cons_zero, List.set_cons_succ]
              refine wpR_val (v := ?_) ?_ ?_ (fun w1 hS hK => ?_) ?_
              rotate_left
              · rfl
              · rfl
              · clear hK hS
                go_simp
                with_reducible rfl
              simp only [Act.put, List.setIfInBounds_toArray, List.set_cons_zero, List.set_cons_succ]
              refine wpR_val (v := ?_) ?_ ?_ (fun w1 hS hK => ?_) ?_
              rotate_left
              · rfl
              · rfl
              · clear hK hS
                go_simp
                with_reducible rfl
              simp only [Act.put, List.setIfInBounds_toArray, List.set_cons_zero, List.set_cons_succ]
              refine wpR_call (v := ?_) (f := ?_) (args := ?_) ?_ ?_ (fun w => ?_) ?_ (fun w1 hS hK => ?_) ?_
              rotate_left 3
              · rfl
              · rfl
              · go_simp
                refine ⟨?_, ?_⟩ <;> rfl
              · kernel_rfl
              · exact dayN A1 k c1 ws (.slice (some ⟨bb, oo, none⟩) ns c3) t dd i d w1 (by omega) (by omega) (by omega) (by omega)
              simp only [Act.put, List.setIfInBounds_toArray, List.set_cons_zero, List.set_cons_succ]
              refine wpR_val (v := ?_) ?_ ?_ (fun w1 hS hK => ?_) ?_
              rotate_left
              · rfl
              · rfl
              · have E1 := (hE).trans hS
                have k0 := (HB.out.ext hS).cell (j := 0) rfl
                have k1 := (HB.out.ext hS).cell (j := 1) rfl
                have k2 := (HB.out.ext hS).cell (j := 2) rfl
                have k3 := (HB.out.ext hS).cell (j := 3) rfl
                have k4 := (HB.out.ext hS).cell (j := 4) rfl
                have k5 := (HM2.out.ext hS).cell (j := 2) rfl
                have k6 := (HM2.out.ext hS).cell (j := 3) rfl
                clear hK hS E1
                go_simp
                with_reducible rfl
              simp only [Act.put, List.setIfInBounds_toArray, List.set_cons_zero, List.set_cons_succ]
              refine wpR_val (v := ?_) ?_ ?_ (fun w1 hS hK => ?_) ?_
              rotate_left
              · rfl
              · rfl
              · clear hK hS
                go_simp
                with_reducible rfl
              simp only [Act.put, List.setIfInBounds_toArray, List.set_cons_zero, List.set_cons_succ]
              refine wpR_val (v := ?_) ?_ ?_ (fun w1 hS hK => ?_) ?_
              rotate_left
              · rfl
              · rfl
              · clear hK hS
                go_simp
                with_reducible rfl
              simp only [Act.put, List.setIfInBounds_toArray, List.set_cons_zero, List.set_cons_succ]
              refine wpR_val (v := ?_) ?_ ?_ (fun w1 hS hK => ?_) ?_
              rotate_left
              · rfl
              · rfl
              · clear hK hS
                have hwr := HWr.out
                go_simp
                with_reducible rfl
              simp only [Act.put, List.setIfInBounds_toArray, List.set_cons_zero, List.set_cons_succ]
              refine wpR_call (v := ?_) (f := ?_) (args := ?_) ?_ ?_ (fun w => ?_) ?_ (fun w1 hS hK => ?_) ?_
              rotate_left 3
              · rfl
              · rfl
              · go_simp
                refine ⟨?_, ?_⟩ <;> rfl
              · kernel_rfl
              · exact dayN1 A1 k c1 ws (.slice (some ⟨bb, oo, none⟩) ns c3) t dd i d w1 (by omega) (by omega) (by omega) (by omega)
              simp only [Act.put, List.setIfInBounds_toArray, List.set_cons_zero, List.set_cons_succ]
              refine wpR_val (v := ?_) ?_ ?_ (fun w1 hS hK => ?_) ?_
              rotate_left
              · rfl
              · rfl
              · clear hK hS
                go_simp
                with_reducible rfl
              simp only [Act.put, List.setIfInBounds_toArray, List.set_cons_zero, List.set_cons_succ]
              refine wpR_val (v := ?_) ?_ ?_ (fun w1 hS hK => ?_) ?_
              rotate_left
              · rfl
              · rfl
              · have E1 := (hE).trans hS
                have k0 := (HB.out.ext hS).cell (j := 0) rfl
                have k1 := (HB.out.ext hS).cell (j := 1) rfl
                have k2 := (HB.out.ext hS).cell (j := 2) rfl
                have k3 := (HB.out.ext hS).cell (j := 3) rfl
                have k4 := (HB.out.ext hS).cell (j := 4) rfl
                have k5 := (HM2.out.ext hS).cell (j := 2) rfl
                have k6 := (HM2.out.ext hS).cell (j := 3) rfl
                clear hK hS E1
                go_simp
                with_reducible rfl
              simp only [Act.put, List.setIfInBounds_toArray, List.set_cons_zero, List.set_cons_succ]
              refine wpR_call (v := ?_) (f := ?_) (args := ?_) ?_ ?_ (fun w => ?_) ?_ (fun w1 hS hK => ?_) ?_
              rotate_left 3
              · rfl
              · rfl
              · go_simp
                refine ⟨?_, ?_⟩ <;> rfl
              · kernel_rfl
              · exact pair_any dlo dhi w1
              simp only [Act.put, List.setIfInBounds_toArray, List.set_cons_zero, List.set_cons_succ]
              refine wpR_call (v := ?_) (f := ?_) (args := ?_) ?_ ?_ (fun w => ?_) ?_ (fun w1 hS hK => ?_) ?_
              rotate_left 3
              · rfl
              · rfl
              · go_simp
                refine ⟨?_, ?_⟩ <;> rfl
              · kernel_rfl
              · exact turnD (dlo, dhi) w1 HBd0.out
              simp only [Act.put, List.setIfInBounds_toArray, List.set_cons_zero, List.set_cons_succ]
              refine wpR_val (v := ?_) ?_ ?_ (fun w1 hS hK => ?_) ?_
              rotate_left
              · rfl
              · rfl
              · clear hK hS
                go_simp
                with_reducible rfl
              simp only [Act.put, List.setIfInBounds_toArray, List.set_cons_zero, List.set_cons_succ]
              intro w3 E3 _
              go_wp2_with fail
              refine (know_any N u tc tn ⟨dayIx k dd i d, dayIx k dd i (d + 1), turn2 (dlo, dhi)⟩ w2.heap.size _ hN33 G1.out G2.out G3.out G4.out (HTr.out.ext E3) G5.out (HT.out.ext E3)).mono ?_
              rintro e w4 ⟨rfl, ⟨u', hTr', hT'⟩, hBut⟩
              have hE4 := Lib.hid (hBut.ext (hE.trans E3) (Nat.le_of_lt hsz))
              have hB4 := Lib.hid ((HB.out.ext E3).but (by omega) hBut)
              have hM4 := Lib.hid ((HM2.out.ext E3).but (by omega) hBut)
              have HTr' := Lib.hid hTr'
              have HT' := Lib.hid hT'
              clear hTr' hT' hBut E3 HB HT HTr hE HM2
              go_wp2
              go_roundw
              case rel => exact ⟨d + 1, tn, by go_num, by omega, hE4.out, hB4.out, hM4.out, ⟨u', HT'.out, HTr'.out⟩, G6.out⟩
              case measure => simp [intOf]; omega
            · obtain rfl : d = dd := by omega
              rw [driftsFrom_end] at hC
              have HC := Lib.hid hC
              clear hC
              go_wp2
              go_roundw
              case rel => exact ⟨i + 1, tc, by go_num, by omega, hE, HB.out, ⟨u, HT.out, HTr.out⟩, HC.out⟩
              case measure => simp [intOf]; omega
        · obtain rfl : i = ns := by omega
          rw [List.drop_of_length_le (by have := Hns.out; omega)] at hC
          have htf : tc = tf := hC
          subst htf
          have d0 := HT.out.cell (j := 0) rfl
          obtain ⟨Au, cu, hu, _⟩ := HTr.out.1.form
          rw [HTr.out.2.1] at hu
          subst hu
          clear hC
          go_wp2
          go_ret
          exact ⟨_, rfl, HTr.out, hE⟩
end Go.Proofs.Ytebfnjabgkhngaa
end
section
set_option linter.all false
set_option linter.unusedVariables false
set_option linter.unusedSimpArgs false
set_option linter.constructorNameAsVariable false
set_option linter.unusedVariables false
namespace Go.Proofs.Ytebfnjabgkhngaa
open Go.RowKit Go.RT
theorem massI (m ws s t : Value) (days n : Int) (w : World) (h1 : 0 ≤ n) (h2 : n ≤ 1000) :
    CallsInt 86 #[.agg #[m, ws, s, t, .int .i64 days], .int .i64 n] w (massIx n.toNat) := by
  refine (massAt_any m ws s t days n w h1 h2).mono ?_
  rintro e w' ⟨rfl, hE⟩
  exact ⟨ret_int (by unfold massIx; omega), hE⟩
theorem dayI (A : Option Addr) (k c : Nat) (ws s t : Value) (dd : Nat) (sc d : Int) (w : World) (hk : k ≤ 1000) (h1 : 0 ≤ sc) (h2 : sc ≤ 1000) (h4 : dd ≤ 1000) (h5 : 0 ≤ d) (h6 : d ≤ 1000) :
    CallsInt 117 #[.agg #[.slice A k c, ws, s, t, .int .i64 dd], .int .i64 sc, .int .i64 d] w (dayIx k dd sc.toNat d.toNat) := by
  obtain ⟨s', rfl⟩ := Int.eq_ofNat_of_zero_le h1
  obtain ⟨d', rfl⟩ := Int.eq_ofNat_of_zero_le h5
  exact dayN A k c ws s t dd s' d' w hk (by omega) h4 (by omega)
def FactOk (n : Nat) (f : Fact) : Prop := f.i < n ∧ f.j < n ∧ Bd f.d
abbrev RF (n : Nat) := { x : Nat × Fact // FactOk n x.2 }
def encF (f : Fact) : Value := .agg #[.int .i64 f.i, .int .i64 f.j, .int .i64 f.d.1, .int .i64 f.d.2]
def encsRF (n : Nat) (x : RF n) : Array Value := #[.int .i64 x.1.1, encF x.1.2]
def wFact (x : Weighing) : Fact := ⟨massIx x.b.toNat, massIx x.a.toNat, (x.lo, x.hi)⟩
def nomAt (b : Bench) (m : Int) : Int := ((b.masses[m.toNat]?).map Mass.nom).getD 0
def tFact (b : Bench) (dd : Nat) (x : Trial) : Fact := ⟨dayIx b.masses.length dd x.scale.toNat x.day.toNat, massIx x.mass.toNat, (x.shown - nomAt b x.mass, x.shown - nomAt b x.mass)⟩
def wFrom : Nat → List Weighing → List (Nat × Fact)
  | _, [] => []
  | k, x :: l => (k, wFact x) :: wFrom (k + 1) l
def tFrom (b : Bench) (dd : Nat) : Nat → List Trial → List (Nat × Fact)
  | _, [] => []
  | k, x :: l => (k, tFact b dd x) :: tFrom b dd (k + 1) l
def resFacts (b : Bench) (dd : Nat) : List (Nat × Fact) := wFrom 0 b.weighings ++ tFrom b dd b.weighings.length b.trials
theorem wFrom_len : ∀ (k : Nat) (l : List Weighing), (wFrom k l).length = l.length
  | _, [] => rfl
  | k, x :: l => by simp [wFrom, wFrom_len (k + 1) l]
theorem tFrom_len (b : Bench) (dd : Nat) : ∀ (k : Nat) (l : List Trial), (tFrom b dd k l).length = l.length
  | _, [] => rfl
  | k, x :: l => by simp [tFrom, tFrom_len b dd (k + 1) l]
theorem wFrom_get : ∀ (k : Nat) (l : List Weighing) (i : Nat) (h : i < l.length), (wFrom k l)[i]? = some (k + i, wFact l[i])
  | _, [], _, h => by simp at h
  | k, x :: l, 0, _ => rfl
  | k, x :: l, i + 1, h => by
    simp only [wFrom, List.getElem?_cons_succ, List.getElem_cons_succ]
    rw [wFrom_get (k + 1) l i (by simpa using h), show k + 1 + i = k + (i + 1) by omega]
theorem tFrom_get (b : Bench) (dd : Nat) : ∀ (k : Nat) (l : List Trial) (i : Nat) (h : i < l.length), (tFrom b dd k l)[i]? = some (k + i, tFact b dd l[i])
  | _, [], _, h => by simp at h
  | k, x :: l, 0, _ => rfl
  | k, x :: l, i + 1, h => by
    simp only [tFrom, List.getElem?_cons_succ, List.getElem_cons_succ]
    rw [tFrom_get b dd (k + 1) l i (by simpa using h), show k + 1 + i = k + (i + 1) by omega]
structure Valid (b : Bench) (dd : Nat) : Prop where
  m1 : 1 ≤ b.masses.length
  m5 : b.masses.length ≤ 5
  mass : ∀ x ∈ b.masses, 1 ≤ x.nom ∧ x.nom ≤ 1000000 ∧ -10000 ≤ x.lo ∧ x.lo ≤ x.hi ∧ x.hi ≤ 10000
  w6 : b.weighings.length ≤ 6
  weigh : ∀ x ∈ b.weighings, 0 ≤ x.a ∧ x.a < b.masses.length ∧ 0 ≤ x.b ∧ x.b < b.masses.length ∧ x.a ≠ x.b ∧ -20000 ≤ x.lo ∧ x.lo ≤ x.hi ∧ x.hi ≤ 20000
  s1 : 1 ≤ b.scales.length
  s3 : b.scales.length ≤ 3
  scale : ∀ x ∈ b.scales, -10000 ≤ x.flo ∧ x.flo ≤ x.fhi ∧ x.fhi ≤ 10000 ∧ -10000 ≤ x.dlo ∧ x.dlo ≤ x.dhi ∧ x.dhi ≤ 10000
  days : b.days = dd
  dd8 : dd ≤ 8
  t6 : b.trials.length ≤ 6
  trial : ∀ x ∈ b.trials, 0 ≤ x.scale ∧ x.scale < b.scales.length ∧ 0 ≤ x.mass ∧ x.mass < b.masses.length ∧ 0 ≤ x.day ∧ x.day ≤ dd ∧ 0 ≤ x.shown ∧ x.shown ≤ 2000000
theorem spanErr_zero {lo hi a b : Int} (h : spanErr lo hi a b = 0) : a ≤ lo ∧ lo ≤ hi ∧ hi ≤ b := by
  unfold spanErr at h
  split at h
  · omega
  · split at h <;> omega
theorem firstErr_zero {α : Type} {f : α → Int} : ∀ {l : List α}, firstErr f l = 0 → ∀ x ∈ l, f x = 0
  | [], _, x, hx => by cases hx
  | y :: l, h, x, hx => by
    unfold firstErr at h
    split at h
    · rename_i h0
      rcases List.mem_cons.1 hx with rfl | hx
      · exact h0
      · exact firstErr_zero h x hx
    · rename_i h0; exact absurd h h0
theorem manyErr_zero {n most : Int} (h : manyErr n most = 0) : n ≠ 0 ∧ n ≤ most := by
  unfold manyErr at h
  split at h
  · omega
  · split at h <;> omega
theorem valid_of_check {b : Bench} (h : checkErr b = 0) : ∃ dd : Nat, Valid b dd := by
  have hall := firstErr_zero h
  unfold checkErrs at hall
  simp only [List.mem_cons, List.not_mem_nil, or_false, forall_eq_or_imp, forall_eq, id_eq] at hall
  obtain ⟨h1, h2, h3, h4, h5, h6, h7, h8⟩ := hall
  have m1 := manyErr_zero h1
  have m3 := manyErr_zero h3
  have m5 := manyErr_zero h5
  unfold daysErr at h7
  split at h7
  · omega
  rename_i hd
  have m7 := manyErr_zero h7
  obtain ⟨dd, hdd⟩ := Int.eq_ofNat_of_zero_le (show 0 ≤ b.days by omega)
  refine ⟨dd, by omega, by omega, fun x hx => ?_, by omega, fun x hx => ?_, by omega, by omega, fun x hx => ?_, hdd, by omega, by omega, fun x hx => ?_⟩
  · have := firstErr_zero h2 x hx
    unfold massErr at this
    split at this
    · omega
    · have := spanErr_zero this; omega
  · have := firstErr_zero h4 x hx
    unfold weighErr at this
    split at this
    · omega
    · split at this
      · omega
      · have := spanErr_zero this; omega
  · have := firstErr_zero h6 x hx
    unfold scaleErr at this
    split at this
    · rename_i h0
      have := spanErr_zero h0
      have := spanErr_zero ‹spanErr x.dlo x.dhi (-10000) 10000 = 0›
      omega
    · omega
  · have := firstErr_zero h8 x hx
    unfold trialErr at this
    split at this
    · omega
    · split at this <;> omega
end Go.Proofs.Ytebfnjabgkhngaa
end
section
set_option linter.all false
set_option linter.unusedVariables false
set_option linter.unusedSimpArgs false
set_option linter.constructorNameAsVariable false
set_option linter.unusedVariables false
namespace Go.Proofs.Ytebfnjabgkhngaa
open Go.RowKit Go.RT
attribute [local go_sem] Oper.semAt_some
theorem grown_ext {w w' : World} (h : Ext w w') : w.grownBy w' none := ⟨h.os, h.tape, h.output, h.size, fun k hk _ => h.block k hk⟩
def KpB (n₀ B : Nat) (A C : World) : Prop := Below n₀ A C ∧ C.heap[B]? = A.heap[B]?
set_option maxRecDepth 100000 in
set_option maxHeartbeats 1000000 in
theorem results_stops (b : Bench) (dd N B : Nat) (A0 A1 A2 A3 : Option Addr) (c0 c1 c2 c3 : Nat) (w wb : World) (h0w : Ext w wb) (hV : Valid b dd) (hN : dayIx b.masses.length dd b.scales.length 0 = N) (n : Nat)
    (hB : OwnB wb B 111 [.slice A0 b.masses.length c0, .slice A1 b.weighings.length c1, .slice A2 b.scales.length c2, .slice A3 b.trials.length c3, .int .i64 dd])
    (hm : Rd 3 (Flat encMass) w (.slice A0 b.masses.length c0) b.masses) (hw : Rd 4 (Flat encWeighing) w (.slice A1 b.weighings.length c1) b.weighings) (ht : Rd 4 (Flat encTrial) w (.slice A3 b.trials.length c3) b.trials)
    (all : List (RF N)) (hall : all.map (fun x => x.1) = resFacts b dd) :
    SeqStopsK Fence.wide n Try.prog 115 #[.pointer (some ⟨B, 0, none⟩)] (encsRF N) (KpB w.heap.size B) (fun xs => xs = all) (fun pre => pre <+: all) all.length wb := by
  intro l J Jx W hW hJ hJx hY h0
  have hB := hB.ext hW
  have hW := h0w.trans hW
  clear h0w
  have hlen : all.length = b.weighings.length + b.trials.length := by
    have := congrArg List.length hall
    rw [List.length_map] at this
    rw [this]
    simp [resFacts, wFrom_len, tFrom_len]
  have HV := Lib.hid hV
  have HN := Lib.hid hN
  have HB := Lib.hid hB
  have HM := Lib.hid hm
  have HW := Lib.hid hw
  have HT := Lib.hid ht
  have HAll := Lib.hid hall
  have HLen := Lib.hid hlen
  have h5 := hV.m5
  have h3 := hV.s3
  have h6 := hV.w6
  have h6' := hV.t6
  have h8 := hV.dd8
  clear hV hN hB hm hw ht hall hlen
  generalize hnm : b.masses.length = nm at *
  generalize hns : b.scales.length = ns at *
  generalize hnw : b.weighings.length = nw at *
  generalize hnt : b.trials.length = nt at *
  have Hnm := Lib.hid hnm
  have Hns := Lib.hid hns
  have Hnw := Lib.hid hnw
  have Hnt := Lib.hid hnt
  clear hnm hns hnw hnt
  have HJ := Lib.hid hJ
  have HJx := Lib.hid hJx
  have HY := Lib.hid hY
  clear hJ hJx hY
  have b0 := HB.out.cell (j := 1) rfl
  refine callsIn_of_wp Try.func115 rfl trivial ?_ rfl
  simp only [Try.ntmps115, List.size_toArray, List.length_cons, List.length_nil, Nat.reduceAdd, Nat.reduceSub, Array.replicate_succ, Array.replicate_zero, List.push_toArray, List.append_toArray, List.nil_append, List.cons_append]
  gi_wp2
  gi_loopw [12] (fun q wr => ∃ k : Nat, q = .int .i64 k ∧ k ≤ nw ∧ Ext w wr ∧ OwnB wr B 111 [.slice A0 nm c0, .slice A1 nw c1, .slice A2 ns c2, .slice A3 nt c3, .int .i64 dd] ∧ J (all.take k) wr) (fun q _ => nw - (intOf q).toNat)
  case atStart => exact ⟨0, rfl, Nat.zero_le _, hW, HB.out, by simpa using h0⟩
  case round =>
    clear b0 h0
    clear HB
    obtain ⟨k, rfl, hk, hE, hB, hJk⟩ := hrel
    have HJk := Lib.hid hJk
    have HB := Lib.hid hB
    clear hJk hB
    by_cases hlt : k < nw
    · have hlt' : k < b.weighings.length := by have := Hnw.out; omega
      have hka : k < all.length := by have := HLen.out; omega
      obtain ⟨bb, oo, rfl, hc⟩ := (HW.out.ext (Flat.keeps _) hE).at_ k hlt'
      have m0 := hc 0 _ rfl
      have m1 := hc 1 _ rfl
      have m2 := hc 2 _ rfl
      have m3 := hc 3 _ rfl
      simp only [Nat.add_zero] at m0 m1 m2 m3
      have hx : all[k].1 = (k, wFact b.weighings[k]) := by
        have h1 := congrArg (fun l => l[k]?) HAll.out
        simp only [List.getElem?_map, resFacts] at h1
        rw [List.getElem?_append_left (by rw [wFrom_len]; exact hlt'), wFrom_get 0 b.weighings k hlt', List.getElem?_eq_getElem hka] at h1
        simpa using h1
      have hval := HV.out.weigh b.weighings[k] (List.getElem_mem hlt')
      clear hc
      generalize b.weighings[k] = x at *
      obtain ⟨xa, xb, lo, hi⟩ := x
      simp only at m0 m1 m2 m3 hval
      have he : encsRF N all[k] = #[.int .i64 k, .agg #[.int .i64 (massIx xb.toNat), .int .i64 (massIx xa.toNat), .int .i64 lo, .int .i64 hi]] := by
        unfold encsRF
        rw [hx]
        rfl
      have HE := Lib.hid he
      rw [Hnm.out] at hval
      have HVal := Lib.hid hval
      have hpre : all.take k ++ [all[k]] = all.take (k + 1) := (List.take_succ_eq_append_getElem hka).symm
      have HPre := Lib.hid hpre
      have hkl : (all.take k).length < all.length := by rw [List.length_take]; omega
      generalize all[k] = xk at *
      have HKl := Lib.hid hkl
      clear he hval hpre hx hlt' hkl hka
      have HMb := Lib.hid (OwnB.laid wr 85 [.int .i64 xa, .int .i64 xb, .int .i64 lo, .int .i64 hi])
      gi_wp2
      refine region_extIn 14 [] (by kernel_rfl) (by kernel_rfl) trivial ?_
      simp only [List.take_succ_cons, List.take_zero, List.drop_succ_cons, List.drop_zero]
      refine wpR_val (v := ?_) ?_ ?_ (fun w1 hS hK => ?_) ?_
      rotate_left
      · rfl
      · rfl
      · clear hK hS
        go_simp
        with_reducible rfl
      simp only [Act.put, List.setIfInBounds_toArray, List.set_cons_zero, List.set_cons_succ]
      refine wpR_val (v := ?_) ?_ ?_ (fun w1 hS hK => ?_) ?_
      rotate_left
      · rfl
      · rfl
      · clear hK hS
        go_simp
        with_reducible rfl
      simp only [Act.put, List.setIfInBounds_toArray, List.set_cons_zero, List.set_cons_succ]
      refine wpR_val (v := ?_) ?_ ?_ (fun w1 hS hK => ?_) ?_
      rotate_left
      · rfl
      · rfl
      · have E1 := hS
        have k0 := (HB.out.ext ((Ext.alloc _ _).trans hS)).cell (j := 0) rfl
        have k1 := (HB.out.ext ((Ext.alloc _ _).trans hS)).cell (j := 1) rfl
        have k2 := (HB.out.ext ((Ext.alloc _ _).trans hS)).cell (j := 2) rfl
        have k3 := (HB.out.ext ((Ext.alloc _ _).trans hS)).cell (j := 3) rfl
        have k4 := (HB.out.ext ((Ext.alloc _ _).trans hS)).cell (j := 4) rfl
        have k5 := (HMb.out.ext hS).cell (j := 0) rfl
        have k6 := (HMb.out.ext hS).cell (j := 1) rfl
        have k7 := (HMb.out.ext hS).cell (j := 2) rfl
        have k8 := (HMb.out.ext hS).cell (j := 3) rfl
        clear hK hS E1
        go_simp
        with_reducible rfl
      simp only [Act.put, List.setIfInBounds_toArray, List.set_cons_zero, List.set_cons_succ]
      refine wpR_val (v := ?_) ?_ ?_ (fun w1 hS hK => ?_) ?_
      rotate_left
      · rfl
      · rfl
      · clear hK hS
        go_simp
        with_reducible rfl
      simp only [Act.put, List.setIfInBounds_toArray, List.set_cons_zero, List.set_cons_succ]
      refine wpR_val (v := ?_) ?_ ?_ (fun w1 hS hK => ?_) ?_
      rotate_left
      · rfl
      · rfl
      · have E1 := hS
        have k0 := (HB.out.ext ((Ext.alloc _ _).trans hS)).cell (j := 0) rfl
        have k1 := (HB.out.ext ((Ext.alloc _ _).trans hS)).cell (j := 1) rfl
        have k2 := (HB.out.ext ((Ext.alloc _ _).trans hS)).cell (j := 2) rfl
        have k3 := (HB.out.ext ((Ext.alloc _ _).trans hS)).cell (j := 3) rfl
        have k4 := (HB.out.ext ((Ext.alloc _ _).trans hS)).cell (j := 4) rfl
        have k5 := (HMb.out.ext hS).cell (j := 0) rfl
        have k6 := (HMb.out.ext hS).cell (j := 1) rfl
        have k7 := (HMb.out.ext hS).cell (j := 2) rfl
        have k8 := (HMb.out.ext hS).cell (j := 3) rfl
        clear hK hS E1
        go_simp
        with_reducible rfl
      simp only [Act.put, List.setIfInBounds_toArray, List.set_cons_zero, List.set_cons_succ]
      refine wpR_call (v := ?_) (f := ?_) (args := ?_) ?_ ?_ (fun w => ?_) ?_ (fun w1 hS hK => ?_) ?_
      rotate_left 3
      · rfl
      · rfl
      · go_simp
        refine ⟨?_, ?_⟩ <;> rfl
      · kernel_rfl
      · exact massI (.slice A0 nm c0) (.slice (some ⟨bb, oo, none⟩) nw c1) (.slice A2 ns c2) (.slice A3 nt c3) dd xb w1 (by have := HVal.out; omega) (by have := HVal.out; omega)
      simp only [Act.put, List.setIfInBounds_toArray, List.set_cons_zero, List.set_cons_succ]
      refine wpR_val (v := ?_) ?_ ?_ (fun w1 hS hK => ?_) ?_
      rotate_left
      · rfl
      · rfl
      · have E1 := hS
        have k0 := (HB.out.ext ((Ext.alloc _ _).trans hS)).cell (j := 0) rfl
        have k1 := (HB.out.ext ((Ext.alloc _ _).trans hS)).cell (j := 1) rfl
        have k2 := (HB.out.ext ((Ext.alloc _ _).trans hS)).cell (j := 2) rfl
        have k3 := (HB.out.ext ((Ext.alloc _ _).trans hS)).cell (j := 3) rfl
        have k4 := (HB.out.ext ((Ext.alloc _ _).trans hS)).cell (j := 4) rfl
        have k5 := (HMb.out.ext hS).cell (j := 0) rfl
        have k6 := (HMb.out.ext hS).cell (j := 1) rfl
        have k7 := (HMb.out.ext hS).cell (j := 2) rfl
        have k8 := (HMb.out.ext hS).cell (j := 3) rfl
        clear hK hS E1
        go_simp
        with_reducible rfl
      simp only [Act.put, List.setIfInBounds_toArray, List.set_cons_zero, List.set_cons_succ]
      refine wpR_val (v := ?_) ?_ ?_ (fun w1 hS hK => ?_) ?_
      rotate_left
      · rfl
      · rfl
      · clear hK hS
        go_simp
        with_reducible rfl
      simp only [Act.put, List.setIfInBounds_toArray, List.set_cons_zero, List.set_cons_succ]
      refine wpR_val (v := ?_) ?_ ?_ (fun w1 hS hK => ?_) ?_
      rotate_left
      · rfl
      · rfl
      · have E1 := hS
        have k0 := (HB.out.ext ((Ext.alloc _ _).trans hS)).cell (j := 0) rfl
        have k1 := (HB.out.ext ((Ext.alloc _ _).trans hS)).cell (j := 1) rfl
        have k2 := (HB.out.ext ((Ext.alloc _ _).trans hS)).cell (j := 2) rfl
        have k3 := (HB.out.ext ((Ext.alloc _ _).trans hS)).cell (j := 3) rfl
        have k4 := (HB.out.ext ((Ext.alloc _ _).trans hS)).cell (j := 4) rfl
        have k5 := (HMb.out.ext hS).cell (j := 0) rfl
        have k6 := (HMb.out.ext hS).cell (j := 1) rfl
        have k7 := (HMb.out.ext hS).cell (j := 2) rfl
        have k8 := (HMb.out.ext hS).cell (j := 3) rfl
        clear hK hS E1
        go_simp
        with_reducible rfl
      simp only [Act.put, List.setIfInBounds_toArray, List.set_cons_zero, List.set_cons_succ]
      refine wpR_call (v := ?_) (f := ?_) (args := ?_) ?_ ?_ (fun w => ?_) ?_ (fun w1 hS hK => ?_) ?_
      rotate_left 3
      · rfl
      · rfl
      · go_simp
        refine ⟨?_, ?_⟩ <;> rfl
      · kernel_rfl
      · exact massI (.slice A0 nm c0) (.slice (some ⟨bb, oo, none⟩) nw c1) (.slice A2 ns c2) (.slice A3 nt c3) dd xa w1 (by have := HVal.out; omega) (by have := HVal.out; omega)
      simp only [Act.put, List.setIfInBounds_toArray, List.set_cons_zero, List.set_cons_succ]
      refine wpR_val (v := ?_) ?_ ?_ (fun w1 hS hK => ?_) ?_
      rotate_left
      · rfl
      · rfl
      · clear hK hS
        go_simp
        with_reducible rfl
      simp only [Act.put, List.setIfInBounds_toArray, List.set_cons_zero, List.set_cons_succ]
      refine wpR_val (v := ?_) ?_ ?_ (fun w1 hS hK => ?_) ?_
      rotate_left
      · rfl
      · rfl
      · have E1 := hS
        have k0 := (HB.out.ext ((Ext.alloc _ _).trans hS)).cell (j := 0) rfl
        have k1 := (HB.out.ext ((Ext.alloc _ _).trans hS)).cell (j := 1) rfl
        have k2 := (HB.out.ext ((Ext.alloc _ _).trans hS)).cell (j := 2) rfl
        have k3 := (HB.out.ext ((Ext.alloc _ _).trans hS)).cell (j := 3) rfl
        have k4 := (HB.out.ext ((Ext.alloc _ _).trans hS)).cell (j := 4) rfl
        have k5 := (HMb.out.ext hS).cell (j := 0) rfl
        have k6 := (HMb.out.ext hS).cell (j := 1) rfl
        have k7 := (HMb.out.ext hS).cell (j := 2) rfl
        have k8 := (HMb.out.ext hS).cell (j := 3) rfl
        clear hK hS E1
        go_simp
        with_reducible rfl
      simp only [Act.put, List.setIfInBounds_toArray, List.set_cons_zero, List.set_cons_succ]
      refine wpR_call (v := ?_) (f := ?_) (args := ?_) ?_ ?_ (fun w => ?_) ?_ (fun w1 hS hK => ?_) ?_
      rotate_left 3
      · rfl
      · rfl
      · go_simp
        refine ⟨?_, ?_⟩ <;> rfl
      · kernel_rfl
      · exact pair_any lo hi w1
      simp only [Act.put, List.setIfInBounds_toArray, List.set_cons_zero, List.set_cons_succ]
      refine wpR_val (v := ?_) ?_ ?_ (fun w1 hS hK => ?_) ?_
      rotate_left
      · rfl
      · rfl
      · clear hK hS
        go_simp
        with_reducible rfl
      simp only [Act.put, List.setIfInBounds_toArray, List.set_cons_zero, List.set_cons_succ]
      intro w2 E2 _
      have E02 := (Ext.alloc _ _).trans E2
      have hJ2 : J (all.take k) w2 := HJ.out _ wr w2 none HJk.out (grown_ext E02) (fun r h => by cases h)
      obtain ⟨fn, tmps, assign, body, hy, hR⟩ := HY.out (all.take k) xk w2 hJ2 HKl.out
      rw [HE.out] at hy
      have E03 := hE.trans E02
      have HB3 := Lib.hid (HB.out.ext E02)
      clear hJ2 E2 E02 hE m0 m1 m2 m3 HMb HB
      gi_wp2
      refine ⟨(fun h => by cases h), hR.mono ?_⟩
      rintro e W3 (⟨rfl, hJ3, hk3⟩ | ⟨rfl, hJx3⟩)
      · have hE3 : Ext w W3 := Below.trans E03 hk3.1
        have HBw := Lib.hid (show OwnB W3 B _ _ from hk3.2.trans HB3.out)
        rw [HPre.out] at hJ3
        have HJ3 := Lib.hid hJ3
        clear hJ3 hk3 hy hR E03
        gi_wp2
        go_roundw
        case rel => exact ⟨k + 1, by go_num, by omega, hE3, HBw.out, HJ3.out⟩
        case measure => simp [intOf]; omega
      · have HJx3 := Lib.hid hJx3
        clear hJx3 hy hR
        gi_wp2
        refine bodyPost_ret (results_none rfl _ _ _) rfl ⟨⟨_, rfl⟩, .inr ⟨_, ?_, HJx3.out⟩⟩
        rw [HPre.out]
        exact List.take_prefix _ _
    · obtain rfl : k = nw := by omega
      have b0 := HB.out.cell (j := 3) rfl
      gi_wp2
      gi_loopw [38] (fun q wr => ∃ i : Nat, q = .int .i64 i ∧ i ≤ nt ∧ Ext w wr ∧ OwnB wr B 111 [.slice A0 nm c0, .slice A1 k c1, .slice A2 ns c2, .slice A3 nt c3, .int .i64 dd] ∧ J (all.take (k + i)) wr) (fun q _ => nt - (intOf q).toNat)
      case atStart => exact ⟨0, rfl, Nat.zero_le _, hE, HB.out, HJk.out⟩
      case round =>
        clear b0 HJk hE HB
        obtain ⟨i, rfl, hi, hE, hB, hJk⟩ := hrel
        have HJk := Lib.hid hJk
        have HB := Lib.hid hB
        clear hJk hB
        by_cases hlt : i < nt
        · have hlt' : i < b.trials.length := by have := Hnt.out; omega
          have hka : k + i < all.length := by have := HLen.out; omega
          obtain ⟨bb, oo, rfl, hc⟩ := (HT.out.ext (Flat.keeps _) hE).at_ i hlt'
          have m0 := hc 0 _ rfl
          have m1 := hc 1 _ rfl
          have m2 := hc 2 _ rfl
          have m3 := hc 3 _ rfl
          simp only [Nat.add_zero] at m0 m1 m2 m3
          have hx : all[k + i].1 = (k + i, tFact b dd b.trials[i]) := by
            have h1 := congrArg (fun l => l[k + i]?) HAll.out
            simp only [List.getElem?_map, resFacts] at h1
            rw [List.getElem?_append_right (by rw [wFrom_len]; have := Hnw.out; omega), wFrom_len, show k + i - b.weighings.length = i by have := Hnw.out; omega, tFrom_get b dd _ b.trials i hlt', List.getElem?_eq_getElem hka, Hnw.out] at h1
            simpa using h1
          have hval := HV.out.trial b.trials[i] (List.getElem_mem hlt')
          clear hc
          generalize b.trials[i] = x at *
          obtain ⟨sc, dy, ms, sh⟩ := x
          simp only at m0 m1 m2 m3 hval
          rw [Hnm.out, Hns.out] at hval
          obtain ⟨q, hq⟩ : ∃ q : Nat, ms = q := Int.eq_ofNat_of_zero_le hval.2.2.1
          subst hq
          have hq' : q < b.masses.length := by have := Hnm.out; omega
          obtain ⟨ba, oa, rfl, hcm⟩ := (HM.out.ext (Flat.keeps _) hE).at_ q hq'
          have p0 := hcm 0 _ rfl
          have hnom : 1 ≤ b.masses[q].nom ∧ b.masses[q].nom ≤ 1000000 := ⟨(HV.out.mass b.masses[q] (List.getElem_mem hq')).1, (HV.out.mass b.masses[q] (List.getElem_mem hq')).2.1⟩
          have hat : nomAt b q = b.masses[q].nom := by unfold nomAt; simp [hq']
          simp only [Nat.add_zero] at p0
          clear hcm
          generalize b.masses[q].nom = nom at *
          have he : encsRF N all[k + i] = #[.int .i64 ((k : Int) + i), .agg #[.int .i64 (dayIx nm dd sc.toNat dy.toNat), .int .i64 (massIx ((q : Nat) : Int).toNat), .int .i64 (sh - nom), .int .i64 (sh - nom)]] := by
            unfold encsRF
            rw [hx]
            unfold tFact encF
            simp only [hat, Hnm.out]
            rw [show ((k + i : Nat) : Int) = (k : Int) + i from by omega]
          rw [Int.toNat_natCast] at he
          have HE := Lib.hid he
          have HVal := Lib.hid hval
          have HNom := Lib.hid hnom
          have hpre : all.take (k + i) ++ [all[k + i]] = all.take (k + i + 1) := (List.take_succ_eq_append_getElem hka).symm
          have HPre := Lib.hid hpre
          have hkl : (all.take (k + i)).length < all.length := by rw [List.length_take]; omega
          generalize all[k + i] = xk at *
          have HKl := Lib.hid hkl
          have hqn : q < nm := by omega
          clear he hval hpre hx hlt' hkl hka hq' hnom hat
          have HMb := Lib.hid (OwnB.laid wr 29 [.int .i64 sc, .int .i64 dy, .int .i64 q, .int .i64 sh])
          have HWr : Hid (IntKind.i64.wrap (sh - nom) = sh - nom) := Lib.hid (by have := HVal.out; have := HNom.out; rw [IntKind.wrap_i64]; omega)
          have HWr2 : Hid (IntKind.i64.wrap ((k : Int) + (i : Int)) = (k : Int) + (i : Int)) := Lib.hid (by rw [IntKind.wrap_i64]; omega)
          gi_wp2
          refine region_extIn 12 [] (by kernel_rfl) (by kernel_rfl) trivial ?_
          simp only [List.take_succ_cons, List.take_zero, List.drop_succ_cons, List.drop_zero]
          refine wpR_val (v := ?_) ?_ ?_ (fun w1 hS hK => ?_) ?_
          rotate_left
          · rfl
          · rfl
          · clear hK hS
            go_simp
            with_reducible rfl
          simp only [Act.put, List.setIfInBounds_toArray, List.set_cons_zero, List.set_cons_succ]
          refine wpR_val (v := ?_) ?_ ?_ (fun w1 hS hK => ?_) ?_
          rotate_left
          · rfl
          · rfl
          · have E1 := hS
            have k0 := (HB.out.ext ((Ext.alloc _ _).trans hS)).cell (j := 0) rfl
            have k1 := (HB.out.ext ((Ext.alloc _ _).trans hS)).cell (j := 1) rfl
            have k2 := (HB.out.ext ((Ext.alloc _ _).trans hS)).cell (j := 2) rfl
            have k3 := (HB.out.ext ((Ext.alloc _ _).trans hS)).cell (j := 3) rfl
            have k4 := (HB.out.ext ((Ext.alloc _ _).trans hS)).cell (j := 4) rfl
            have k5 := (HMb.out.ext hS).cell (j := 0) rfl
            have k6 := (HMb.out.ext hS).cell (j := 1) rfl
            have k7 := (HMb.out.ext hS).cell (j := 2) rfl
            have k8 := (HMb.out.ext hS).cell (j := 3) rfl
            have k9 := ((Ext.alloc _ _).trans hS).cell p0
            clear hK hS E1
            go_simp
            with_reducible rfl
          simp only [Act.put, List.setIfInBounds_toArray, List.set_cons_zero, List.set_cons_succ]
          refine wpR_val (v := ?_) ?_ ?_ (fun w1 hS hK => ?_) ?_
          rotate_left
          · rfl
          · rfl
          · clear hK hS
            go_simp
            with_reducible rfl
          simp only [Act.put, List.setIfInBounds_toArray, List.set_cons_zero, List.set_cons_succ]
          refine wpR_val (v := ?_) ?_ ?_ (fun w1 hS hK => ?_) ?_
          rotate_left
          · rfl
          · rfl
          · clear hK hS
            go_simp
            with_reducible rfl
          simp only [Act.put, List.setIfInBounds_toArray, List.set_cons_zero, List.set_cons_succ]
          refine wpR_val (v := ?_) ?_ ?_ (fun w1 hS hK => ?_) ?_
          rotate_left
          · rfl
          · rfl
          · have E1 := hS
            have k0 := (HB.out.ext ((Ext.alloc _ _).trans hS)).cell (j := 0) rfl
            have k1 := (HB.out.ext ((Ext.alloc _ _).trans hS)).cell (j := 1) rfl
            have k2 := (HB.out.ext ((Ext.alloc _ _).trans hS)).cell (j := 2) rfl
            have k3 := (HB.out.ext ((Ext.alloc _ _).trans hS)).cell (j := 3) rfl
            have k4 := (HB.out.ext ((Ext.alloc _ _).trans hS)).cell (j := 4) rfl
            have k5 := (HMb.out.ext hS).cell (j := 0) rfl
            have k6 := (HMb.out.ext hS).cell (j := 1) rfl
            have k7 := (HMb.out.ext hS).cell (j := 2) rfl
            have k8 := (HMb.out.ext hS).cell (j := 3) rfl
            have k9 := ((Ext.alloc _ _).trans hS).cell p0
            clear hK hS E1
            go_simp
            with_reducible rfl
          simp only [Act.put, List.setIfInBounds_toArray, List.set_cons_zero, List.set_cons_succ]
          refine wpR_val (v := ?_) ?_ ?_ (fun w1 hS hK => ?_) ?_
          rotate_left
          · rfl
          · rfl
          · clear hK hS
            go_simp
            with_reducible rfl
          simp only [Act.put, List.setIfInBounds_toArray, List.set_cons_zero, List.set_cons_succ]
          refine wpR_val (v := ?_) ?_ ?_ (fun w1 hS hK => ?_) ?_
          rotate_left
          · rfl
          · rfl
          · have E1 := hS
            have k0 := (HB.out.ext ((Ext.alloc _ _).trans hS)).cell (j := 0) rfl
            have k1 := (HB.out.ext ((Ext.alloc _ _).trans hS)).cell (j := 1) rfl
            have k2 := (HB.out.ext ((Ext.alloc _ _).trans hS)).cell (j := 2) rfl
            have k3 := (HB.out.ext ((Ext.alloc _ _).trans hS)).cell (j := 3) rfl
            have k4 := (HB.out.ext ((Ext.alloc _ _).trans hS)).cell (j := 4) rfl
            have k5 := (HMb.out.ext hS).cell (j := 0) rfl
            have k6 := (HMb.out.ext hS).cell (j := 1) rfl
            have k7 := (HMb.out.ext hS).cell (j := 2) rfl
            have k8 := (HMb.out.ext hS).cell (j := 3) rfl
            have k9 := ((Ext.alloc _ _).trans hS).cell p0
            clear hK hS E1
            go_simp
            with_reducible rfl
          simp only [Act.put, List.setIfInBounds_toArray, List.set_cons_zero, List.set_cons_succ]
          refine wpR_val (v := ?_) ?_ ?_ (fun w1 hS hK => ?_) ?_
          rotate_left
          · rfl
          · rfl
          · have E1 := hS
            have k0 := (HB.out.ext ((Ext.alloc _ _).trans hS)).cell (j := 0) rfl
            have k1 := (HB.out.ext ((Ext.alloc _ _).trans hS)).cell (j := 1) rfl
            have k2 := (HB.out.ext ((Ext.alloc _ _).trans hS)).cell (j := 2) rfl
            have k3 := (HB.out.ext ((Ext.alloc _ _).trans hS)).cell (j := 3) rfl
            have k4 := (HB.out.ext ((Ext.alloc _ _).trans hS)).cell (j := 4) rfl
            have k5 := (HMb.out.ext hS).cell (j := 0) rfl
            have k6 := (HMb.out.ext hS).cell (j := 1) rfl
            have k7 := (HMb.out.ext hS).cell (j := 2) rfl
            have k8 := (HMb.out.ext hS).cell (j := 3) rfl
            have k9 := ((Ext.alloc _ _).trans hS).cell p0
            clear hK hS E1
            go_simp
            with_reducible rfl
          simp only [Act.put, List.setIfInBounds_toArray, List.set_cons_zero, List.set_cons_succ]
          refine wpR_val (v := ?_) ?_ ?_ (fun w1 hS hK => ?_) ?_
          rotate_left
          · rfl
          · rfl
          · clear hK hS
            go_simp
            with_reducible rfl
          simp only [Act.put, List.setIfInBounds_toArray, List.set_cons_zero, List.set_cons_succ]
          refine wpR_val (v := ?_) ?_ ?_ (fun w1 hS hK => ?_) ?_
          rotate_left
          · rfl
          · rfl
          · have E1 := hS
            have k0 := (HB.out.ext ((Ext.alloc _ _).trans hS)).cell (j := 0) rfl
            have k1 := (HB.out.ext ((Ext.alloc _ _).trans hS)).cell (j := 1) rfl
            have k2 := (HB.out.ext ((Ext.alloc _ _).trans hS)).cell (j := 2) rfl
            have k3 := (HB.out.ext ((Ext.alloc _ _).trans hS)).cell (j := 3) rfl
            have k4 := (HB.out.ext ((Ext.alloc _ _).trans hS)).cell (j := 4) rfl
            have k5 := (HMb.out.ext hS).cell (j := 0) rfl
            have k6 := (HMb.out.ext hS).cell (j := 1) rfl
            have k7 := (HMb.out.ext hS).cell (j := 2) rfl
            have k8 := (HMb.out.ext hS).cell (j := 3) rfl
            have k9 := ((Ext.alloc _ _).trans hS).cell p0
            clear hK hS E1
            go_simp
            with_reducible rfl
          simp only [Act.put, List.setIfInBounds_toArray, List.set_cons_zero, List.set_cons_succ]
          refine wpR_val (v := ?_) ?_ ?_ (fun w1 hS hK => ?_) ?_
          rotate_left
          · rfl
          · rfl
          · clear hK hS
            have hwr := HWr.out
            go_simp
            with_reducible rfl
          simp only [Act.put, List.setIfInBounds_toArray, List.set_cons_zero, List.set_cons_succ]
          refine wpR_val (v := ?_) ?_ ?_ (fun w1 hS hK => ?_) ?_
          rotate_left
          · rfl
          · rfl
          · clear hK hS
            go_simp
            with_reducible rfl
          simp only [Act.put, List.setIfInBounds_toArray, List.set_cons_zero, List.set_cons_succ]
          intro w2 E2 _
          have E02 := (Ext.alloc _ _).trans E2
          have HMb2 := Lib.hid (HMb.out.ext E2)
          have E03 := hE.trans E02
          clear E2 HMb m0 m1 m2 m3 p0
          gi_wp2
          refine region_extIn 21 [] (by kernel_rfl) (by kernel_rfl) trivial ?_
          simp only [List.take_succ_cons, List.take_zero, List.drop_succ_cons, List.drop_zero]
          refine wpR_val (v := ?_) ?_ ?_ (fun w1 hS hK => ?_) ?_
          rotate_left
          · rfl
          · rfl
          · clear hK hS
            go_simp
            with_reducible rfl
          simp only [Act.put, List.setIfInBounds_toArray, List.set_cons_zero, List.set_cons_succ]
          refine wpR_val (v := ?_) ?_ ?_ (fun w1 hS hK => ?_) ?_
          rotate_left
          · rfl
          · rfl
          · clear hK hS
            go_simp
            with_reducible rfl
          simp only [Act.put, List.setIfInBounds_toArray, List.set_cons_zero, List.set_cons_succ]
          refine wpR_val (v := ?_) ?_ ?_ (fun w1 hS hK => ?_) ?_
          rotate_left
          · rfl
          · rfl
          · clear hK hS
            go_simp
            with_reducible rfl
          simp only [Act.put, List.setIfInBounds_toArray, List.set_cons_zero, List.set_cons_succ]
          refine wpR_val (v := ?_) ?_ ?_ (fun w1 hS hK => ?_) ?_
          rotate_left
          · rfl
          · rfl
          · have E1 := hS
            have k0 := (HB.out.ext (E02.trans hS)).cell (j := 0) rfl
            have k1 := (HB.out.ext (E02.trans hS)).cell (j := 1) rfl
            have k2 := (HB.out.ext (E02.trans hS)).cell (j := 2) rfl
            have k3 := (HB.out.ext (E02.trans hS)).cell (j := 3) rfl
            have k4 := (HB.out.ext (E02.trans hS)).cell (j := 4) rfl
            have k5 := (HMb2.out.ext hS).cell (j := 0) rfl
            have k6 := (HMb2.out.ext hS).cell (j := 1) rfl
            have k7 := (HMb2.out.ext hS).cell (j := 2) rfl
            have k8 := (HMb2.out.ext hS).cell (j := 3) rfl
            clear hK hS E1
            go_simp
            with_reducible rfl
          simp only [Act.put, List.setIfInBounds_toArray, List.set_cons_zero, List.set_cons_succ]
          refine wpR_val (v := ?_) ?_ ?_ (fun w1 hS hK => ?_) ?_
          rotate_left
          · rfl
          · rfl
          · have E1 := hS
            have k0 := (HB.out.ext (E02.trans hS)).cell (j := 0) rfl
            have k1 := (HB.out.ext (E02.trans hS)).cell (j := 1) rfl
            have k2 := (HB.out.ext (E02.trans hS)).cell (j := 2) rfl
            have k3 := (HB.out.ext (E02.trans hS)).cell (j := 3) rfl
            have k4 := (HB.out.ext (E02.trans hS)).cell (j := 4) rfl
            have k5 := (HMb2.out.ext hS).cell (j := 0) rfl
            have k6 := (HMb2.out.ext hS).cell (j := 1) rfl
            have k7 := (HMb2.out.ext hS).cell (j := 2) rfl
            have k8 := (HMb2.out.ext hS).cell (j := 3) rfl
            clear hK hS E1
            go_simp
            with_reducible rfl
          simp only [Act.put, List.setIfInBounds_toArray, List.set_cons_zero, List.set_cons_succ]
          refine wpR_val (v := ?_) ?_ ?_ (fun w1 hS hK => ?_) ?_
          rotate_left
          · rfl
          · rfl
          · clear hK hS
            go_simp
            with_reducible rfl
          simp only [Act.put, List.setIfInBounds_toArray, List.set_cons_zero, List.set_cons_succ]
          refine wpR_val (v := ?_) ?_ ?_ (fun w1 hS hK => ?_) ?_
          rotate_left
          · rfl
          · rfl
          · clear hK hS
            have hwr := HWr2.out
            go_simp
            with_reducible rfl
          simp only [Act.put, List.setIfInBounds_toArray, List.set_cons_zero, List.set_cons_succ]
          refine wpR_val (v := ?_) ?_ ?_ (fun w1 hS hK => ?_) ?_
          rotate_left
          · rfl
          · rfl
          · have E1 := hS
            have k0 := (HB.out.ext (E02.trans hS)).cell (j := 0) rfl
            have k1 := (HB.out.ext (E02.trans hS)).cell (j := 1) rfl
            have k2 := (HB.out.ext (E02.trans hS)).cell (j := 2) rfl
            have k3 := (HB.out.ext (E02.trans hS)).cell (j := 3) rfl
            have k4 := (HB.out.ext (E02.trans hS)).cell (j := 4) rfl
            have k5 := (HMb2.out.ext hS).cell (j := 0) rfl
            have k6 := (HMb2.out.ext hS).cell (j := 1) rfl
            have k7 := (HMb2.out.ext hS).cell (j := 2) rfl
            have k8 := (HMb2.out.ext hS).cell (j := 3) rfl
            clear hK hS E1
            go_simp
            with_reducible rfl
          simp only [Act.put, List.setIfInBounds_toArray, List.set_cons_zero, List.set_cons_succ]
          refine wpR_val (v := ?_) ?_ ?_ (fun w1 hS hK => ?_) ?_
          rotate_left
          · rfl
          · rfl
          · clear hK hS
            go_simp
            with_reducible rfl
          simp only [Act.put, List.setIfInBounds_toArray, List.set_cons_zero, List.set_cons_succ]
          refine wpR_val (v := ?_) ?_ ?_ (fun w1 hS hK => ?_) ?_
          rotate_left
          · rfl
          · rfl
          · have E1 := hS
            have k0 := (HB.out.ext (E02.trans hS)).cell (j := 0) rfl
            have k1 := (HB.out.ext (E02.trans hS)).cell (j := 1) rfl
            have k2 := (HB.out.ext (E02.trans hS)).cell (j := 2) rfl
            have k3 := (HB.out.ext (E02.trans hS)).cell (j := 3) rfl
            have k4 := (HB.out.ext (E02.trans hS)).cell (j := 4) rfl
            have k5 := (HMb2.out.ext hS).cell (j := 0) rfl
            have k6 := (HMb2.out.ext hS).cell (j := 1) rfl
            have k7 := (HMb2.out.ext hS).cell (j := 2) rfl
            have k8 := (HMb2.out.ext hS).cell (j := 3) rfl
            clear hK hS E1
            go_simp
            with_reducible rfl
          simp only [Act.put, List.setIfInBounds_toArray, List.set_cons_zero, List.set_cons_succ]
          refine wpR_val (v := ?_) ?_ ?_ (fun w1 hS hK => ?_) ?_
          rotate_left
          · rfl
          · rfl
          · clear hK hS
            go_simp
            with_reducible rfl
          simp only [Act.put, List.setIfInBounds_toArray, List.set_cons_zero, List.set_cons_succ]
          refine wpR_val (v := ?_) ?_ ?_ (fun w1 hS hK => ?_) ?_
          rotate_left
          · rfl
          · rfl
          · have E1 := hS
            have k0 := (HB.out.ext (E02.trans hS)).cell (j := 0) rfl
            have k1 := (HB.out.ext (E02.trans hS)).cell (j := 1) rfl
            have k2 := (HB.out.ext (E02.trans hS)).cell (j := 2) rfl
            have k3 := (HB.out.ext (E02.trans hS)).cell (j := 3) rfl
            have k4 := (HB.out.ext (E02.trans hS)).cell (j := 4) rfl
            have k5 := (HMb2.out.ext hS).cell (j := 0) rfl
            have k6 := (HMb2.out.ext hS).cell (j := 1) rfl
            have k7 := (HMb2.out.ext hS).cell (j := 2) rfl
            have k8 := (HMb2.out.ext hS).cell (j := 3) rfl
            clear hK hS E1
            go_simp
            with_reducible rfl
          simp only [Act.put, List.setIfInBounds_toArray, List.set_cons_zero, List.set_cons_succ]
          refine wpR_call (v := ?_) (f := ?_) (args := ?_) ?_ ?_ (fun w => ?_) ?_ (fun w1 hS hK => ?_) ?_
          rotate_left 3
          · rfl
          · rfl
          · go_simp
            refine ⟨?_, ?_⟩ <;> rfl
          · kernel_rfl
          · exact dayI (some ⟨ba, oa, none⟩) nm c0 (.slice A1 k c1) (.slice A2 ns c2) (.slice (some ⟨bb, oo, none⟩) nt c3) dd sc dy w1 (by omega) (by have := HVal.out; omega) (by have := HVal.out; omega) (by omega) (by have := HVal.out; omega) (by have := HVal.out; omega)
          simp only [Act.put, List.setIfInBounds_toArray, List.set_cons_zero, List.set_cons_succ]
          refine wpR_val (v := ?_) ?_ ?_ (fun w1 hS hK => ?_) ?_
          rotate_left
          · rfl
          · rfl
          · have E1 := hS
            have k0 := (HB.out.ext (E02.trans hS)).cell (j := 0) rfl
            have k1 := (HB.out.ext (E02.trans hS)).cell (j := 1) rfl
            have k2 := (HB.out.ext (E02.trans hS)).cell (j := 2) rfl
            have k3 := (HB.out.ext (E02.trans hS)).cell (j := 3) rfl
            have k4 := (HB.out.ext (E02.trans hS)).cell (j := 4) rfl
            have k5 := (HMb2.out.ext hS).cell (j := 0) rfl
            have k6 := (HMb2.out.ext hS).cell (j := 1) rfl
            have k7 := (HMb2.out.ext hS).cell (j := 2) rfl
            have k8 := (HMb2.out.ext hS).cell (j := 3) rfl
            clear hK hS E1
            go_simp
            with_reducible rfl
          simp only [Act.put, List.setIfInBounds_toArray, List.set_cons_zero, List.set_cons_succ]
          refine wpR_val (v := ?_) ?_ ?_ (fun w1 hS hK => ?_) ?_
          rotate_left
          · rfl
          · rfl
          · clear hK hS
            go_simp
            with_reducible rfl
          simp only [Act.put, List.setIfInBounds_toArray, List.set_cons_zero, List.set_cons_succ]
          refine wpR_val (v := ?_) ?_ ?_ (fun w1 hS hK => ?_) ?_
          rotate_left
          · rfl
          · rfl
          · have E1 := hS
            have k0 := (HB.out.ext (E02.trans hS)).cell (j := 0) rfl
            have k1 := (HB.out.ext (E02.trans hS)).cell (j := 1) rfl
            have k2 := (HB.out.ext (E02.trans hS)).cell (j := 2) rfl
            have k3 := (HB.out.ext (E02.trans hS)).cell (j := 3) rfl
            have k4 := (HB.out.ext (E02.trans hS)).cell (j := 4) rfl
            have k5 := (HMb2.out.ext hS).cell (j := 0) rfl
            have k6 := (HMb2.out.ext hS).cell (j := 1) rfl
            have k7 := (HMb2.out.ext hS).cell (j := 2) rfl
            have k8 := (HMb2.out.ext hS).cell (j := 3) rfl
            clear hK hS E1
            go_simp
            with_reducible rfl
          simp only [Act.put, List.setIfInBounds_toArray, List.set_cons_zero, List.set_cons_succ]
          refine wpR_call (v := ?_) (f := ?_) (args := ?_) ?_ ?_ (fun w => ?_) ?_ (fun w1 hS hK => ?_) ?_
          rotate_left 3
          · rfl
          · rfl
          · go_simp
            refine ⟨?_, ?_⟩ <;> rfl
          · kernel_rfl
          · exact massI (.slice (some ⟨ba, oa, none⟩) nm c0) (.slice A1 k c1) (.slice A2 ns c2) (.slice (some ⟨bb, oo, none⟩) nt c3) dd q w1 (by omega) (by omega)
          simp only [Act.put, List.setIfInBounds_toArray, List.set_cons_zero, List.set_cons_succ]
          refine wpR_val (v := ?_) ?_ ?_ (fun w1 hS hK => ?_) ?_
          rotate_left
          · rfl
          · rfl
          · clear hK hS
            go_simp
            with_reducible rfl
          simp only [Act.put, List.setIfInBounds_toArray, List.set_cons_zero, List.set_cons_succ]
          refine wpR_val (v := ?_) ?_ ?_ (fun w1 hS hK => ?_) ?_
          rotate_left
          · rfl
          · rfl
          · clear hK hS
            go_simp
            with_reducible rfl
          simp only [Act.put, List.setIfInBounds_toArray, List.set_cons_zero, List.set_cons_succ]
          refine wpR_val (v := ?_) ?_ ?_ (fun w1 hS hK => ?_) ?_
          rotate_left
          · rfl
          · rfl
          · clear hK hS
            go_simp
            with_reducible rfl
          simp only [Act.put, List.setIfInBounds_toArray, List.set_cons_zero, List.set_cons_succ]
          refine wpR_val (v := ?_) ?_ ?_ (fun w1 hS hK => ?_) ?_
          rotate_left
          · rfl
          · rfl
          · clear hK hS
            go_simp
            with_reducible rfl
          simp only [Act.put, List.setIfInBounds_toArray, List.set_cons_zero, List.set_cons_succ]
          intro w3 E3 _
          have hJ2 : J (all.take (k + i)) w3 := HJ.out _ wr w3 none HJk.out (grown_ext (E02.trans E3)) (fun r h => by cases h)
          obtain ⟨fn, tmps, assign, body, hy, hR⟩ := HY.out (all.take (k + i)) xk w3 hJ2 HKl.out
          rw [HE.out] at hy
          have E04 := E03.trans E3
          have HB3 := Lib.hid (HB.out.ext (E02.trans E3))
          clear hJ2 E3 E02 E03 hE HMb2 HB
          gi_wp2
          refine ⟨(fun h => by cases h), hR.mono ?_⟩
          rintro e W3 (⟨rfl, hJ3, hk3⟩ | ⟨rfl, hJx3⟩)
          · have hE3 : Ext w W3 := Below.trans E04 hk3.1
            have HBw := Lib.hid (show OwnB W3 B _ _ from hk3.2.trans HB3.out)
            rw [HPre.out] at hJ3
            have HJ3 := Lib.hid hJ3
            clear hJ3 hk3 hy hR E04
            gi_wp2
            go_roundw
            case rel => exact ⟨i + 1, by go_num, by omega, hE3, HBw.out, HJ3.out⟩
            case measure => simp [intOf]; omega
          · have HJx3 := Lib.hid hJx3
            clear hJx3 hy hR
            gi_wp2
            refine bodyPost_ret (results_none rfl _ _ _) rfl ⟨⟨_, rfl⟩, .inr ⟨_, ?_, HJx3.out⟩⟩
            rw [HPre.out]
            exact List.take_prefix _ _
        · obtain rfl : i = nt := by omega
          gi_wp2
          go_end0
          refine ⟨⟨_, rfl⟩, .inl ⟨all, rfl, ?_⟩⟩
          have := HJk.out
          rwa [List.take_of_length_le (by have := HLen.out; omega)] at this
end Go.Proofs.Ytebfnjabgkhngaa
end
section
set_option linter.all false
set_option linter.unusedVariables false
set_option linter.unusedSimpArgs false
set_option linter.constructorNameAsVariable false
set_option linter.unusedVariables false
namespace Go.Proofs.Ytebfnjabgkhngaa
open Go.RowKit Go.RT
structure Gd (n : Nat) (t : List (List D)) : Prop where
  diag : ∀ a, a < n → (tget t a a).2 = 0
  anti : ∀ a b, a < n → b < n → (tget t a b).1 = -(tget t b a).2
  tri : ∀ a b c, a < n → b < n → c < n → (tget t a c).2 ≤ (tget t a b).2 + (tget t b c).2
  bd : ∀ a b, a < n → b < n → -1000000000 ≤ (tget t a b).2 ∧ (tget t a b).2 ≤ 1000000000
theorem Gd.tab {n : Nat} {t : List (List D)} (h : Gd n t) : TabBd n t := fun i k hi hk => by
  have h1 := h.bd i k hi hk
  have h2 := h.bd k i hk hi
  have h3 := h.anti i k hi hk
  unfold Bd
  omega
theorem withT_get {n : Nat} {t t' : List (List D)} {i j : Nat} {d : D} (h : withT n t i j d = some t') (a b : Nat) (ha : a < n) (hb : b < n) : tget t' a b = withE t i j (both2 d (tget t i j)) a b := by
  unfold withT at h
  split at h
  · cases h
  · cases h
    unfold tget withRow
    simp [ha, hb]
theorem withT_le {n : Nat} {t t' : List (List D)} {i j : Nat} {d : D} (h : withT n t i j d = some t') : (both2 d (tget t i j)).1 ≤ (both2 d (tget t i j)).2 := by
  unfold withT at h
  split at h
  · cases h
  · omega
theorem plusHi_fin {a b c : Int} (h1 : a ≤ 1000000000) (h2 : b ≤ 1000000000) (h3 : c ≤ 1000000000) : plusHi (plusHi a b) c = a + b + c := by
  have e : plusHi a b = a + b := by unfold plusHi; rw [if_neg (by omega)]
  rw [e]; unfold plusHi; rw [if_neg (by omega)]
theorem plusLo_fin {a b c : Int} (h1 : -1000000000 ≤ a) (h2 : -1000000000 ≤ b) (h3 : -1000000000 ≤ c) : plusLo (plusLo a b) c = a + b + c := by
  have e : plusLo a b = a + b := by unfold plusLo; rw [if_neg (by omega)]
  rw [e]; unfold plusLo; rw [if_neg (by omega)]
theorem withT_hi {n : Nat} {t t' : List (List D)} {i j : Nat} {d : D} (hg : Gd n t) (hi : i < n) (hj : j < n) (h : withT n t i j d = some t') (a b : Nat) (ha : a < n) (hb : b < n) :
    (tget t' a b).2 = min (min (tget t a b).2 ((tget t a i).2 + min d.2 (tget t i j).2 + (tget t j b).2)) ((tget t a j).2 + -(max d.1 (-(tget t j i).2)) + (tget t i b).2) ∧
    (tget t' a b).1 = max (max (-(tget t b a).2) (-(tget t i a).2 + max d.1 (-(tget t j i).2) + -(tget t b j).2)) (-(tget t j a).2 + -(min d.2 (tget t i j).2) + -(tget t b i).2) := by
  have h0 := withT_le h
  rw [withT_get h a b ha hb]
  unfold withE both2 plus2 turn2
  unfold both2 at h0
  simp only [hg.anti a b ha hb, hg.anti i j hi hj, hg.anti a i ha hi, hg.anti j b hj hb, hg.anti a j ha hj, hg.anti i b hi hb] at h0 ⊢
  have b1 := hg.bd i j hi hj
  have b2 := hg.bd j i hj hi
  have b3 := hg.bd a i ha hi
  have b4 := hg.bd i a hi ha
  have b5 := hg.bd a j ha hj
  have b6 := hg.bd j a hj ha
  have b7 := hg.bd b i hb hi
  have b8 := hg.bd i b hi hb
  have b9 := hg.bd b j hb hj
  have b10 := hg.bd j b hj hb
  generalize (tget t i j).2 = Dij at *
  generalize (tget t j i).2 = Dji at *
  have hu : min d.2 Dij ≤ 1000000000 := by omega
  have hl : -1000000000 ≤ max d.1 (-Dji) := by omega
  generalize max d.1 (-Dji) = l at *
  generalize min d.2 Dij = u at *
  constructor
  · rw [plusHi_fin (by omega) (by omega) (by omega), plusHi_fin (by omega) (by omega) (by omega)]
  · rw [plusLo_fin (by omega) (by omega) (by omega), plusLo_fin (by omega) (by omega) (by omega)]
theorem Gd.withT {n : Nat} {t t' : List (List D)} {i j : Nat} {d : D} (hg : Gd n t) (hi : i < n) (hj : j < n) (h : withT n t i j d = some t') : Gd n t' := by
  have h0 := withT_le h
  unfold both2 at h0
  simp only [hg.anti i j hi hj] at h0
  have hu1 : min d.2 (tget t i j).2 ≤ (tget t i j).2 := Int.min_le_right _ _
  have hl1 : -(tget t j i).2 ≤ max d.1 (-(tget t j i).2) := Int.le_max_right _ _
  have key := fun a b ha hb => withT_hi hg hi hj h a b ha hb
  generalize max d.1 (-(tget t j i).2) = l at *
  generalize min d.2 (tget t i j).2 = u at *
  have tri := hg.tri
  have T := fun a b c ha hb hc => hg.tri a b c ha hb hc
  have hdg : ∀ a, a < n → (tget t' a a).2 = 0 := fun a ha => by
    rw [(key a a ha ha).1, hg.diag a ha]
    have := T j a i hj ha hi
    have := T i a j hi ha hj
    omega
  have htri : ∀ a b c, a < n → b < n → c < n → (tget t' a c).2 ≤ (tget t' a b).2 + (tget t' b c).2 := fun a b c ha hb hc => by
    rw [(key a c ha hc).1, (key a b ha hb).1, (key b c hb hc).1]
    have t1 := T a b c ha hb hc
    have t2 := T j b c hj hb hc
    have t3 := T i b c hi hb hc
    have t4 := T a b i ha hb hi
    have t5 := T a b j ha hb hj
    have t6 := T j b i hj hb hi
    have t7 := T i b j hi hb hj
    have t8 := T j b j hj hb hj
    have t9 := T i b i hi hb hi
    have t10 := hg.diag i hi
    have t11 := hg.diag j hj
    have t12 := T a i c ha hi hc
    have t13 := T a j c ha hj hc
    generalize (tget t a b).2 = x1 at *
    generalize (tget t b c).2 = x2 at *
    generalize (tget t a c).2 = x3 at *
    generalize (tget t a i).2 = x4 at *
    generalize (tget t a j).2 = x5 at *
    generalize (tget t i c).2 = x6 at *
    generalize (tget t j c).2 = x7 at *
    generalize (tget t i b).2 = x8 at *
    generalize (tget t j b).2 = x9 at *
    generalize (tget t b i).2 = x10 at *
    generalize (tget t b j).2 = x11 at *
    generalize (tget t i j).2 = x12 at *
    generalize (tget t j i).2 = x13 at *
    clear key T tri hg h
    omega
  refine ⟨hdg, fun a b ha hb => ?_, htri, fun a b ha hb => ?_⟩
  · rw [(key a b ha hb).2, (key b a hb ha).1]
    omega
  · have h1 := htri a b a ha hb ha
    rw [hdg a ha] at h1
    have h2 : ∀ x y, x < n → y < n → (tget t' x y).2 ≤ 1000000000 := fun x y hx hy => by
      rw [(key x y hx hy).1]
      have := hg.bd x y hx hy
      omega
    have := h2 a b ha hb
    have := h2 b a hb ha
    refine ⟨?_, by omega⟩
    omega
def foldF (n : Nat) : List Fact → List (List D) → Option (List (List D))
  | [], t => some t
  | f :: l, t => (withT n t f.i f.j f.d).bind (foldF n l)
theorem foldF_snoc (n : Nat) (f : Fact) : ∀ (l : List Fact) (t : List (List D)), foldF n (l ++ [f]) t = (foldF n l t).bind fun u => withT n u f.i f.j f.d
  | [], t => by
    simp only [List.nil_append, foldF, Option.bind_some]
    cases withT n t f.i f.j f.d <;> rfl
  | g :: l, t => by
    simp only [List.cons_append, foldF]
    cases withT n t g.i g.j g.d with
    | none => rfl
    | some u => simpa using foldF_snoc n f l u
theorem foldF_append (n : Nat) : ∀ (l m : List Fact) (t : List (List D)), foldF n (l ++ m) t = (foldF n l t).bind (foldF n m)
  | [], m, t => rfl
  | g :: l, m, t => by
    simp only [List.cons_append, foldF]
    cases withT n t g.i g.j g.d with
    | none => rfl
    | some u => simpa using foldF_append n l m u
theorem foldF_none (n : Nat) {l m : List Fact} {t : List (List D)} (h : foldF n l t = none) : foldF n (l ++ m) t = none := by rw [foldF_append, h]; rfl
theorem foldF_gd {n : Nat} : ∀ {l : List Fact} {t t' : List (List D)}, Gd n t → (∀ f ∈ l, f.i < n ∧ f.j < n) → foldF n l t = some t' → Gd n t'
  | [], t, t', hg, _, h => by cases h; exact hg
  | f :: l, t, t', hg, hb, h => by
    simp only [foldF, Option.bind_eq_some_iff] at h
    obtain ⟨u, h1, h2⟩ := h
    have := hb f (by simp)
    exact foldF_gd (hg.withT this.1 this.2 h1) (fun g hg => hb g (by simp [hg])) h2
end Go.Proofs.Ytebfnjabgkhngaa
end
section
set_option linter.all false
set_option linter.unusedVariables false
set_option linter.unusedSimpArgs false
set_option linter.constructorNameAsVariable false
set_option linter.unusedVariables false
namespace Go.Proofs.Ytebfnjabgkhngaa
open Go.RowKit Go.RT
attribute [local go_sem] Oper.semAt_some
theorem results_any (b : Bench) (v m ws s t : Value) (w : World) (hv : v = .agg #[m, ws, s, t, .int .i64 b.days]) :
    Calls Try.prog 65 #[v] w fun e w' => ∃ B, w.heap.size ≤ B ∧ e = .returned (.func (.func 115) #[] #[.pointer (some ⟨B, 0, none⟩)]) ∧ OwnB w' B 111 [m, ws, s, t, .int .i64 b.days] ∧ Ext w w' := by
  subst hv
  have H := OwnB.laid w 111 [m, ws, s, t, .int .i64 b.days]
  go_enter Try.func65, Try.ntmps65
  go_wp2_with fail
  go_ret
  exact ⟨w.heap.size, Nat.le_refl _, rfl, H, Ext.alloc _ _⟩
theorem TabRd.via {n : Nat} {w w' : World} {v : Value} {t : List (List D)} (h : TabRd n w v t) (hk : ∀ a u, w.cell? a = some u → ((∃ z, u = .int .i64 z) ∨ ∃ R c, u = .slice R n c) → w'.cell? a = some u) : TabRd n w' v t := by
  obtain ⟨⟨A, c, h1, h2, h3⟩, h4, h5⟩ := h
  refine ⟨⟨A, c, h1, h2, fun i row hi => ?_⟩, h4, h5⟩
  obtain ⟨b, o, cs, hA, ⟨u, hcs, hu⟩, hl, hc⟩ := h3 i row hi
  have hrow := h5 row (List.mem_of_getElem? hi)
  obtain ⟨A', c', g1, g2, g3⟩ := hu
  refine ⟨b, o, cs, hA, ⟨u, hcs, A', c', g1, g2, fun k d hd => ?_⟩, hl, fun j x hx => ?_⟩
  · obtain ⟨b', o', cs', e1, e2, e3, e4⟩ := g3 k d hd
    refine ⟨b', o', cs', e1, e2, e3, fun j x hx => hk _ _ (e4 j x hx) (.inl ?_)⟩
    rw [show cs' = encD d from e2] at hx
    rcases j with _ | _ | j
    · exact ⟨d.1, by simpa [encD] using hx.symm⟩
    · exact ⟨d.2, by simpa [encD] using hx.symm⟩
    · simp [encD] at hx
  · refine hk _ _ (hc j x hx) (.inr ?_)
    subst hcs
    rcases j with _ | j
    · have : u = x := by simpa using hx
      subst this
      exact ⟨A', c', by rw [g1, hrow]⟩
    · simp at hx
theorem TabRd.ext' {n : Nat} {w w' : World} {v : Value} {t : List (List D)} (h : TabRd n w v t) (he : Ext w w') : TabRd n w' v t := h.via fun a u hu _ => he.cell hu
theorem TabRd.setBool {n : Nat} {w : World} {v : Value} {t : List (List D)} (h : TabRd n w v t) {a : Addr} {x : Bool} (y : Value) (hx : w.cell? a = some (.bool x)) : TabRd n (w.setCell a y) v t := h.via fun b u hu hh => by
  rw [World.cell?_setCell_other]
  · exact hu
  · rintro rfl
    rw [hx] at hu
    cases hu
    rcases hh with ⟨z, hz⟩ | ⟨R, c, hz⟩ <;> cases hz
theorem TabRd.setNil {n : Nat} {w : World} {v : Value} {t : List (List D)} (h : TabRd n w v t) (hn : 0 < n) {a : Addr} (y : Value) (hx : w.cell? a = some (.slice none 0 0)) : TabRd n (w.setCell a y) v t := h.via fun b u hu hh => by
  rw [World.cell?_setCell_other]
  · exact hu
  · rintro rfl
    rw [hx] at hu
    cases hu
    rcases hh with ⟨z, hz⟩ | ⟨R, c, hz⟩
    · cases hz
    · cases hz; omega
theorem keepsOthers_ext {w w' : World} (h : Ext w w') : KeepsOthers w w' := ⟨h.size, fun j o hj _ => (h.block j (Array.getElem?_eq_some_iff.1 hj).1).trans hj⟩
theorem OwnB.grown {w w' : World} {b : Nat} {T : TypeId} {cs : List Value} {row : Option Nat} (h : OwnB w b T cs) (hg : w.grownBy w' row) (hr : ∀ r, row = some r → ∃ o : Obj, w.heap[r]? = some o ∧ o.isCells = false) : OwnB w' b T cs := (grownBy_keeps_cells hg hr h rfl).trans h
theorem kpB_t {n₀ B : Nat} {X Y Z : World} (h : KpB n₀ B X Y) (k : KpB n₀ B Y Z) : KpB n₀ B X Z := ⟨h.1.trans k.1, k.2.trans h.2⟩
theorem kpB_b {n₀ B : Nat} {w : World} (hn : n₀ ≤ w.heap.size) (hB : B < w.heap.size) (W : World) (l : Nat) (o o' : Obj) (hl : w.heap.size ≤ l) (h : W.heap[l]? = some o) (h1 : o.isCells = false) (h2 : o.isWalk = false) : KpB n₀ B W (W.putObj l o') :=
  ⟨belowK_b hn W l o o' hl h h1 h2, (grownBy_putObj' W l o').block B (by have := (Array.getElem?_eq_some_iff.1 h).1; omega) (fun e => by cases e; omega)⟩
theorem ownB_own {β : Type} (B : Nat) (T : TypeId) (cs : List Value) : Own (fun (_ : β) W => OwnB W B T cs) := fun _ _ _ _ hs hg hr => hs.grown hg hr
theorem tab_grown {n : Nat} {w w' : World} {v : Value} {t : List (List D)} {row : Option Nat} (h : TabRd n w v t) (hg : w.grownBy w' row) (hr : ∀ r, row = some r → ∃ o : Obj, w.heap[r]? = some o ∧ o.isCells = false) : TabRd n w' v t := h.via fun a u hu _ => cell_kept hu hg hr
def facts1 {N : Nat} (l : List (RF N)) : List Fact := l.map fun x => x.1.2
theorem facts1_snoc {N : Nat} (l : List (RF N)) (x : RF N) : facts1 (l ++ [x]) = facts1 l ++ [x.1.2] := by simp [facts1]
def knownT (b : Bench) (dd N : Nat) (t0 : List (List D)) : Option (List (List D)) := foldF N ((resFacts b dd).map Prod.snd) t0
def KnownPost (N : Nat) (o : Option (List (List D))) (w : World) (e : Ending) (w' : World) : Prop :=
  (match o with
    | none => e = .returned (.tuple #[.slice none 0 0, .bool false])
    | some t => ∃ v', e = .returned (.tuple #[v', .bool true]) ∧ TabRd N w' v' t) ∧ Ext w w'
theorem facts1_ok {N : Nat} (l : List (RF N)) : ∀ f ∈ facts1 l, f.i < N ∧ f.j < N := fun f hf => by
  obtain ⟨x, _, rfl⟩ := List.mem_map.1 hf
  exact ⟨x.2.1, x.2.2.1⟩
theorem list_rf {N : Nat} : ∀ (l : List (Nat × Fact)), (∀ x ∈ l, FactOk N x.2) → ∃ all : List (RF N), all.map (fun x => x.1) = l
  | [], _ => ⟨[], rfl⟩
  | x :: l, h => by
    obtain ⟨r, hr⟩ := list_rf l (fun y hy => h y (by simp [hy]))
    exact ⟨⟨x, h x (by simp)⟩ :: r, by simp [hr]⟩
set_option maxRecDepth 100000 in
set_option maxHeartbeats 2000000 in
theorem known_any (b : Bench) (dd N : Nat) (v : Value) (t0 : List (List D)) (w : World) (h : BenchRd w v b) (hV : Valid b dd) (hN : dayIx b.masses.length dd b.scales.length 0 = N) (hch : Chain N (startFacts b dd) (blankT N) t0) (hg : Gd N t0) (hf : ∀ x ∈ resFacts b dd, FactOk N x.2) :
    Calls Try.prog 85 #[v] w (KnownPost N (knownT b dd N t0) w) := by
  obtain ⟨all, hall⟩ := list_rf _ hf
  have hN0 : 0 < N := by rw [← hN]; unfold dayIx; omega
  have hN1 : N ≤ 1000 := by
    have : b.scales.length * (dd + 1) ≤ 3 * 9 := Nat.mul_le_mul hV.s3 (by have := hV.dd8; omega)
    have := hV.m5
    unfold dayIx at hN
    omega
  have hst := start_any b dd N v t0
  have hKn : knownT b dd N t0 = foldF N (facts1 all) t0 := by unfold knownT facts1; rw [← hall, List.map_map]; rfl
  rw [hKn]
  have hbr := h
  obtain ⟨m, ws, s, t, rfl, hm, hw, hs, ht⟩ := h
  have hb1 := OwnB.laid w 111 [m, ws, s, t, .int .i64 b.days]
  have hb2 := (OwnB.laid (w.alloc (.cells [m, ws, s, t, .int .i64 b.days].toArray 111)) 122 [.slice none 0 0])
  have hb3 := (OwnB.laid ((w.alloc (.cells [m, ws, s, t, .int .i64 b.days].toArray 111)).alloc (.cells [.slice none 0 0].toArray 122)) 4 [.bool false])
  rw [World.size_alloc] at hb2 hb3
  rw [World.size_alloc] at hb3
  have HB1 := Lib.hid ((hb1.ext (Ext.alloc _ _)).ext (Ext.alloc _ _) : OwnB (((w.alloc (.cells [m, ws, s, t, .int .i64 b.days].toArray 111)).alloc (.cells [.slice none 0 0].toArray 122)).alloc (.cells [.bool false].toArray 4)) _ _ _)
  have HB2 := Lib.hid (hb2.ext (Ext.alloc _ _) : OwnB (((w.alloc (.cells [m, ws, s, t, .int .i64 b.days].toArray 111)).alloc (.cells [.slice none 0 0].toArray 122)).alloc (.cells [.bool false].toArray 4)) _ _ _)
  have HB3 := Lib.hid hb3
  clear hb1 hb2 hb3
  have HV := Lib.hid hV
  have HN := Lib.hid hN
  have HCh := Lib.hid hch
  have HG := Lib.hid hg
  have HF := Lib.hid hall
  have HST := Lib.hid hst
  have HBr := Lib.hid hbr
  have HM := Lib.hid hm
  have HW := Lib.hid hw
  have HS := Lib.hid hs
  have HT := Lib.hid ht
  clear hV hN hch hg hall hst hbr hm hw hs ht hf hKn
  refine (callsIn_wide (n := 3)).1 (callsIn_of_wp_marks Try.func85 rfl trivial ?_ rfl)
  simp only [Try.ntmps85, List.size_toArray, List.length_cons, List.length_nil, Nat.reduceAdd, Nat.reduceSub, Array.replicate_succ, Array.replicate_zero, List.push_toArray, List.append_toArray, List.nil_append, List.cons_append]
  gi_wp2_with fail
  refine ⟨trivial, ?_⟩
  have hE3 : Ext w (((w.alloc (.cells [m, ws, s, t, .int .i64 b.days].toArray 111)).alloc (.cells [.slice none 0 0].toArray 122)).alloc (.cells [.bool false].toArray 4)) := ((Ext.alloc _ _).trans (Ext.alloc _ _)).trans (Ext.alloc _ _)
  generalize ((w.alloc (.cells [m, ws, s, t, .int .i64 b.days].toArray 111)).alloc (.cells [.slice none 0 0].toArray 122)).alloc (.cells [.bool false].toArray 4) = W3 at *
  refine (callsIn_wide.2 (HST.out W3 (HBr.out.ext hE3) HV.out.m5 HV.out.s3 HV.out.days HV.out.dd8 HN.out HCh.out)).mono ?_
  rintro e w1 ⟨v0, rfl, hT0, hE1⟩
  obtain ⟨A0, c0, hv0, _⟩ := hT0.1.form
  rw [hT0.2.1] at hv0
  subst hv0
  have q1 := HB1.out.ext hE1
  have q2 := HB2.out.ext hE1
  have q3 := HB3.out.ext hE1
  have q4 := (OwnB.laid w1 122 [.slice A0 N c0]).ext (Ext.alloc _ (.cells [.bool true].toArray 4))
  have q5 := OwnB.laid (w1.alloc (.cells [.slice A0 N c0].toArray 122)) 4 [.bool true]
  rw [World.size_alloc] at q5
  have hsz1 := q1.lt
  have hsz := q3.lt
  have d1 := q1.cell (j := 0) rfl
  have d2 := q1.cell (j := 1) rfl
  have d3 := q1.cell (j := 2) rfl
  have d4 := q1.cell (j := 3) rfl
  have d5 := q1.cell (j := 4) rfl
  gi_wp2_with fail
  refine ⟨trivial, ?_⟩
  have e1 : Ext w1 ((w1.alloc (.cells [.slice A0 N c0].toArray 122)).alloc (.cells [.bool true].toArray 4)) := (Ext.alloc _ _).trans (Ext.alloc _ _)
  have H1 := Lib.hid (q1.ext e1)
  have H2 := Lib.hid (q2.ext e1)
  have H3 := Lib.hid (q3.ext e1)
  have H4 := Lib.hid q4
  have H5 := Lib.hid q5
  have HTb := Lib.hid (hT0.ext' e1)
  have hE4 := (hE3.trans hE1).trans e1
  clear q1 q2 q3 q4 q5 d1 d2 d3 d4 d5 HB1 HB2 HB3 HST HCh hT0
  refine (callsIn_wide.2 (results_any b _ m ws s t _ rfl)).mono ?_
  rintro e w2 ⟨B, hB, rfl, hOB, hE2⟩
  have hE5 := hE4.trans hE2
  have H1 := Lib.hid (H1.out.ext hE2)
  have H2 := Lib.hid (H2.out.ext hE2)
  have H3 := Lib.hid (H3.out.ext hE2)
  have H4 := Lib.hid (H4.out.ext hE2)
  have H5 := Lib.hid (H5.out.ext hE2)
  have HTb := Lib.hid (HTb.out.ext' hE2)
  have hBg : w1.heap.size + 1 < B := by have := e1.size; simp at hB; omega
  have hw2 := H5.out.lt
  have HOB := Lib.hid hOB
  clear hE2 e1 hE4 hE1 hE3 hOB hB
  gi_wp2_with fail
  obtain ⟨P0, k0, rfl, _⟩ := HM.out.form
  obtain ⟨P1, k1, rfl, _⟩ := HW.out.form
  obtain ⟨P2, k2, rfl, _⟩ := HS.out.form
  obtain ⟨P3, k3, rfl, _⟩ := HT.out.form
  have HSeq := results_stops b dd N B P0 P1 P2 P3 k0 k1 k2 k3 w w2 hE5 HV.out HN.out 2 (by have := HOB.out; rw [HV.out.days] at this; exact this) HM.out HW.out HT.out all HF.out
  have hwn : w.heap.size ≤ w2.heap.size := hE5.size
  have hBl := HOB.out.lt
  refine wpIn_rangeFunc_ownH rfl (by omega) (gf := 115) (lb := #[.pointer (some ⟨B, 0, none⟩)]) rfl trivial (enters_of Try.func115 (by kernel_rfl) rfl)
    HSeq kpB_t (kpB_b hwn hBl) (Below.refl _ _) (fun _ => rfl)
    (fun pre W => (((∃ A c T, OwnB W w1.heap.size 122 [.slice A N c] ∧ TabRd N W (.slice A N c) T ∧ foldF N (facts1 pre) t0 = some T) ∧ OwnB W (w1.heap.size + 1) 4 [.bool true]) ∧ (OwnB W (w.heap.size + 1) 122 [.slice none 0 0] ∧ OwnB W (w.heap.size + 1 + 1) 4 [.bool false])) ∧ (Below w.heap.size w W ∧ w2.heap.size ≤ W.heap.size))
    (fun c pre W => ((c = .ret ∧ foldF N (facts1 pre) t0 = none) ∧ (OwnB W (w.heap.size + 1) 122 [.slice none 0 0] ∧ OwnB W (w.heap.size + 1 + 1) 4 [.bool false])) ∧ Below w.heap.size w W)
    (OwnFrom.and (OwnFrom.and (OwnFrom.and (fun s X Y row hs hg hr => by obtain ⟨A, c, T, g1, g2, g3⟩ := hs; exact ⟨A, c, T, g1.grown hg (fun r e => (hr r e).2), tab_grown g2 hg (fun r e => (hr r e).2), g3⟩) (Own.from (ownB_own _ _ _) _)) (OwnFrom.and (Own.from (ownB_own _ _ _) _) (Own.from (ownB_own _ _ _) _))) (OwnFrom.and (ownFrom_below (Nat.le_refl _) hwn) (fun _ _ _ _ hs hg _ => Nat.le_trans hs hg.size)))
    (fun c => OwnFrom.and (OwnFrom.and (ownFrom_pure _ _) (OwnFrom.and (Own.from (ownB_own _ _ _) _) (Own.from (ownB_own _ _ _) _))) (ownFrom_below (Nat.le_refl _) hwn))
    ⟨⟨⟨⟨A0, c0, t0, H4.out, HTb.out, rfl⟩, H5.out⟩, H2.out, H3.out⟩, hE5, Nat.le_refl _⟩
    (fun x a' W => ∃ Bx, OwnB W Bx 119 [.int .i64 x.1.2.i, .int .i64 x.1.2.j, .int .i64 x.1.2.d.1, .int .i64 x.1.2.d.2] ∧ a' = { tmps := #[.agg #[.slice P0 b.masses.length k0, .slice P1 b.weighings.length k1, .slice P2 b.scales.length k2, .slice P3 b.trials.length k3, .int .i64 b.days], .pointer (some ⟨w.heap.size, 0, none⟩), .pointer (some ⟨w.heap.size + 1, 0, none⟩), .pointer (some ⟨w.heap.size + 1 + 1, 0, none⟩), .pointer (some ⟨w1.heap.size, 0, none⟩), .pointer (some ⟨w1.heap.size + 1, 0, none⟩), undef, .pointer (some ⟨Bx, 0, none⟩), .agg #[.slice P0 b.masses.length k0, .slice P1 b.weighings.length k1, .slice P2 b.scales.length k2, .slice P3 b.trials.length k3, .int .i64 b.days], .slice A0 N c0, .agg #[.slice P0 b.masses.length k0, .slice P1 b.weighings.length k1, .slice P2 b.scales.length k2, .slice P3 b.trials.length k3, .int .i64 b.days], .func (.func 115) #[] #[.pointer (some ⟨B, 0, none⟩)], .int .i64 x.1.1, .agg #[.int .i64 x.1.2.i, .int .i64 x.1.2.j, .int .i64 x.1.2.d.1, .int .i64 x.1.2.d.2], undef, undef, undef, undef, undef, undef, undef, undef, undef], defers := [] })
    (fun x a' _ X Y row hs hg hr => by obtain ⟨Bx, h2, h3⟩ := hs; exact ⟨Bx, h2.grown hg (fun r e => (hr r e).2), h3⟩)
    ?assign ?body ?done ?stop
  case assign =>
    rintro l pre x W K ⟨⟨⟨⟨A, c, T, g1, g2, g3⟩, g5⟩, g6, g7⟩, hB, hW2⟩ hK
    obtain ⟨⟨ix, ⟨fi, fj, fd, fd2⟩⟩, hx⟩ := x
    have hl := OwnB.laid W 119 [.int .i64 fi, .int .i64 fj, .int .i64 fd, .int .i64 fd2]
    unfold encsRF encF
    gi_wp2
    exact hK _ _ ((KeepsOthers.alloc _ _).from _) ⟨(Below.refl _ W).alloc hB.size _, Below.heap_alloc _ _ _ (by omega)⟩ ⟨⟨⟨⟨A, c, T, g1.ext (Ext.alloc _ _), g2.ext' (Ext.alloc _ _), g3⟩, g5.ext (Ext.alloc _ _)⟩, g6.ext (Ext.alloc _ _), g7.ext (Ext.alloc _ _)⟩, hB.alloc hB.size _, by simp; omega⟩ ⟨W.heap.size, hl, rfl⟩
  case body =>
    rintro l pre x a' W hl ⟨r, hr⟩ ⟨⟨⟨⟨A, c, T, g1, g2, g3⟩, g5⟩, g6, g7⟩, hB, hW2⟩ ⟨Bx, bX, rfl⟩ hlt
    obtain ⟨⟨ix, ⟨fi, fj, fd, fd2⟩⟩, hx⟩ := x
    dsimp only at bX ⊢
    have hx' : fi < N ∧ fj < N ∧ Bd (fd, fd2) := hx
    have hgT := foldF_gd HG.out (facts1_ok pre) g3
    have hHT := Lib.hid hgT.tab
    clear hgT
    have q0 := g1.cell (j := 0) rfl
    have x0 := bX.cell (j := 0) rfl
    have x1 := bX.cell (j := 1) rfl
    have x2 := bX.cell (j := 2) rfl
    have x3 := bX.cell (j := 3) rfl
    have G1 := Lib.hid g1
    have G2 := Lib.hid g2
    have G3 := Lib.hid g3
    have G5 := Lib.hid g5
    have G6 := Lib.hid g6
    have G7 := Lib.hid g7
    have HX := Lib.hid hx'
    clear g1 g2 g3 g5 g6 g7 hx'
    gi_wp2_with fail
    refine ⟨trivial, ?_⟩
    refine (CallsIn.inRound l (callsIn_wide.2 (with_any N (.slice A N c) T fi fj fd fd2 W hN1 HX.out.1 HX.out.2.1 G2.out hHT.out HX.out.2.2.1 HX.out.2.2.2.1 HX.out.2.2.2.2.1 HX.out.2.2.2.2.2))).mono ?_
    rintro e W1 ⟨hp, hE⟩
    have q1 := G1.out.ext hE
    have q5 := G5.out.ext hE
    have q6 := G6.out.ext hE
    have q7 := G7.out.ext hE
    have hfold : foldF N (facts1 (pre ++ [⟨(ix, ⟨fi, fj, (fd, fd2)⟩), hx⟩])) t0 = withT N T fi fj (fd, fd2) := by rw [facts1_snoc, foldF_snoc, G3.out]; rfl
    have HFo := Lib.hid hfold
    have hBe : Below w.heap.size w W1 := hB.trans (hE.mono hB.size)
    have hKo := keepsOthers_ext hE
    have hsz' := hE.size
    have hgb : w1.heap.size + 1 < W.heap.size := by omega
    clear hfold q0 x0 x1 x2 x3
    have k1 := q1.cell (j := 0) rfl
    have k5 := q5.cell (j := 0) rfl
    have k6 := q6.cell (j := 0) rfl
    have k7 := q7.cell (j := 0) rfl
    have f1 := q1.frozen 0
    have f5 := q5.frozen 0
    have f6 := q6.frozen 0
    have f7 := q7.frozen 0
    have l1 := q1.lt
    have Q1 := Lib.hid q1
    have Q5 := Lib.hid q5
    have Q6 := Lib.hid q6
    have Q7 := Lib.hid q7
    have HE := Lib.hid hE
    clear q1 q5 q6 q7 hE G1 G5 G6 G7
    cases hwt : withT N T fi fj (fd, fd2) with
    | none =>
      rw [hwt] at hp
      subst hp
      have hfn := HFo.out
      rw [hwt] at hfn
      have HFn := Lib.hid hfn
      clear hwt hfn
      gi_wp2_with fail
      exact ⟨((((hKo.trans (KeepsOthers.setCell _ _ _)).trans (KeepsOthers.setCell _ _ _)).trans (KeepsOthers.setCell _ _ _)).trans (KeepsOthers.setCell _ _ _)).from _,
        ⟨⟨rfl, HFn.out⟩, (((Q6.out.other (by omega) 0 _).other (by omega) 0 _).set 0 (.slice none 0 0)).other (by omega) 0 _, (((Q7.out.other (by omega) 0 _).other (by omega) 0 _).other (by omega) 0 _).set 0 (.bool false)⟩,
        (((hBe.setCell (p := ⟨w1.heap.size, 0, none⟩) (by simp; omega) _).setCell (p := ⟨w1.heap.size + 1, 0, none⟩) (by simp; omega) _).setCell (p := ⟨w.heap.size + 1, 0, none⟩) (by simp) _).setCell (p := ⟨w.heap.size + 1 + 1, 0, none⟩) (by simp; omega) _⟩
    | some T' =>
      rw [hwt] at hp
      obtain ⟨u', rfl, hT'⟩ := hp
      have hfn := HFo.out
      rw [hwt] at hfn
      have HFn := Lib.hid hfn
      have HT' := Lib.hid hT'
      obtain ⟨A', c', hv', _⟩ := (hT'.rd (by omega)).1.form
      rw [(hT'.rd (by omega)).2.1] at hv'
      subst hv'
      clear hwt hfn hT'
      gi_wp2_with fail
      have hX1 := Lib.hid (Q1.out.set 0 (.slice A' N c'))
      have hTa := (HT'.out.other (b := w1.heap.size) (by omega) 0 (.slice A' N c')).other (b := w1.heap.size + 1) (by omega) 0 (.bool true)
      have hKp : KpB w.heap.size B W ((W1.setCell ⟨w1.heap.size, 0, none⟩ (.slice A' N c')).setCell ⟨w1.heap.size + 1, 0, none⟩ (.bool true)) := by
        refine ⟨((HE.out.mono hB.size).setCell (p := ⟨w1.heap.size, 0, none⟩) (by simp; omega) _).setCell (p := ⟨w1.heap.size + 1, 0, none⟩) (by simp; omega) _, ?_⟩
        rw [Below.heap_setCell _ _ _ _ (by simp; omega), Below.heap_setCell _ _ _ _ (by simp; omega)]
        exact HE.out.block B (by omega)
      exact ⟨((hKo.trans (KeepsOthers.setCell _ _ _)).trans (KeepsOthers.setCell _ _ _)).from _, hKp,
        ⟨⟨⟨A', c', T', (Q1.out.set 0 (.slice A' N c')).other (by omega) 0 _, hTa.rd (by omega), HFn.out⟩, (Q5.out.other (by omega) 0 _).set 0 (.bool true)⟩,
          (Q6.out.other (by omega) 0 _).other (by omega) 0 _, (Q7.out.other (by omega) 0 _).other (by omega) 0 _⟩,
        hB.trans hKp.1, by simp; omega⟩
  case done =>
    rintro D xs W hD rfl ⟨⟨⟨⟨A, c, T, g1, g2, g3⟩, g5⟩, g6, g7⟩, hB, hW2⟩ hK
    have k1 := g1.cell (j := 0) rfl
    have k6 := g6.cell (j := 0) rfl
    have k7 := g7.cell (j := 0) rfl
    have f6 := g6.frozen 0
    have f7 := g7.frozen 0
    have l7 := g7.lt
    have G2 := Lib.hid g2
    have G3 := Lib.hid g3
    have G6 := Lib.hid g6
    have G7 := Lib.hid g7
    have HK := Lib.hid hK
    clear g1 g2 g3 g5 g6 g7 hK
    gi_wp2_with fail
    have hK' := ((KeepsOthers.setCell W ⟨w.heap.size + 1, 0, none⟩ (.slice A N c)).trans (KeepsOthers.setCell _ ⟨w.heap.size + 1 + 1, 0, none⟩ (.bool true))).same D _ HK.out rfl
    refine ⟨by simp, .inl ⟨_, _, rfl, run_takeDeferred hK', ?_⟩⟩
    have z6 := (((G6.out.set 0 (.slice A N c)).other (b' := w.heap.size + 1 + 1) (by omega) 0 (.bool true)).grown (grownBy_putObj' _ D (.deferred none)) (fun r e => by cases e; exact ⟨_, hK', rfl⟩)).cell (j := 0) rfl
    have z7 := (((G7.out.other (b' := w.heap.size + 1) (by omega) 0 (.slice A N c)).set 0 (.bool true)).grown (grownBy_putObj' _ D (.deferred none)) (fun r e => by cases e; exact ⟨_, hK', rfl⟩)).cell (j := 0) rfl
    refine ⟨.tuple #[.slice A N c, .bool true], ?_, ?_⟩
    · simp [results, Try.f85, go_sem, z6, z7]
    · have hT2 : TabRd N ((W.setCell ⟨w.heap.size + 1, 0, none⟩ (.slice A N c)).setCell ⟨w.heap.size + 1 + 1, 0, none⟩ (.bool true)) (.slice A N c) T :=
        (G2.out.setNil hN0 (.slice A N c) k6).setBool (.bool true) ((G7.out.other (b' := w.heap.size + 1) (by omega) 0 (.slice A N c)).cell (j := 0) rfl)
      have hT3 := tab_grown hT2 (grownBy_putObj' _ D (.deferred none)) (fun r e => by cases e; exact ⟨_, hK', rfl⟩)
      unfold KnownPost
      rw [G3.out]
      exact ⟨⟨_, rfl, hT3⟩, ((hB.setCell (p := ⟨w.heap.size + 1, 0, none⟩) (by simp) _).setCell (p := ⟨w.heap.size + 1 + 1, 0, none⟩) (by simp; omega) _).trans (belowK_b (w := w2) hwn _ D _ _ (by omega) hK' rfl rfl)⟩
  case stop =>
    rintro D c pre W hD hpre ⟨⟨⟨rfl, g3⟩, g6, g7⟩, hB⟩ hK
    have k6 := g6.cell (j := 0) rfl
    have k7 := g7.cell (j := 0) rfl
    have G6 := Lib.hid g6
    have G7 := Lib.hid g7
    have HK := Lib.hid hK
    clear g6 g7 hK
    gi_wp2_with fail
    refine ⟨by simp, .inl ⟨_, _, rfl, run_takeDeferred HK.out, ?_⟩⟩
    have z6 := (G6.out.grown (grownBy_putObj' _ D (.deferred none)) (fun r e => by cases e; exact ⟨_, HK.out, rfl⟩)).cell (j := 0) rfl
    have z7 := (G7.out.grown (grownBy_putObj' _ D (.deferred none)) (fun r e => by cases e; exact ⟨_, HK.out, rfl⟩)).cell (j := 0) rfl
    refine ⟨.tuple #[.slice none 0 0, .bool false], ?_, ?_⟩
    · simp [results, Try.f85, go_sem, z6, z7]
    · obtain ⟨suf, hsuf⟩ := hpre
      have e : foldF N (facts1 all) t0 = none := by
        rw [← hsuf]
        unfold facts1
        rw [List.map_append]
        exact foldF_none N g3
      unfold KnownPost
      rw [e]
      exact ⟨rfl, hB.trans (belowK_b (w := w2) hwn _ D _ _ (by omega) HK.out rfl rfl)⟩
end Go.Proofs.Ytebfnjabgkhngaa
end
