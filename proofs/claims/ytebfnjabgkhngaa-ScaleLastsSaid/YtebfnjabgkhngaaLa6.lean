/-
The statement ScaleLasts: proved for every input. Part 6 of 11.
-/
import Derived.Deep.CutBlock
import Derived.Test.YtebfnjabgkhngaaLa4
import Derived.Test.YtebfnjabgkhngaaLa5
section
set_option linter.all false
set_option linter.unusedVariables false
set_option linter.unusedSimpArgs false
set_option linter.constructorNameAsVariable false
set_option linter.unusedVariables false
namespace Go.Proofs.Ytebfnjabgkhngaa
open Go.RowKit Go.RT
def fixO (Bs Bm Bf W T set : Nat) (va : Value) : List (Nat × Value) :=
  [(1, .pointer (some ⟨Bs, 0, none⟩)), (2, .pointer (some ⟨Bm, 0, none⟩)), (3, .pointer (some ⟨Bf, 0, none⟩)), (4, .pointer (some ⟨W, 0, none⟩)), (5, .pointer (some ⟨W + 1, 0, none⟩)), (8, va), (34, .int .i64 T), (35, .int .i64 set)]
set_option maxRecDepth 100000 in
set_option maxHeartbeats 2000000 in
theorem outer_skip_f (Al : Option Addr) (cl : Nat) (Ae : Option Addr) (ce : Nat) (most days : Int) (evs : List Int) (Bs Bm Bf M : Nat) (hd : 0 ≤ days ∧ days ≤ 10) (N : Nat) (hN : evs.length = N) (hn : N ≤ 4) (hev : ∀ x ∈ evs, 0 ≤ x ∧ x ≤ 10) (ok : Nat → Prop) (w : World)
    (hx : PCtx (.slice Al evs.length cl) (.slice Ae evs.length ce) most days evs Bs Bm Bf M w) (day : Int) (hday : 0 ≤ day ∧ day ≤ 10) (set T kk : Nat) (hset : set < T) (hT : T ≤ 16) (va : Value) (qs : List Raw) (a b c d : Int) (hu : Smalls [a, b, c, d]) (wr : World)
    (hH : Hold most days evs ok M w [.int .i64 day, .int .i64 a, .int .i64 b, .int .i64 c, .int .i64 d] wr.heap.size kk va qs wr) (hbb : (innS days evs day set [a, b, c, d] N).2.2 = false) (x : Nat → Value) (Q : Exit → Act → World → Prop)
    (hnext : ∀ a' w', HasF 119 (fixO Bs Bm Bf w.heap.size T (set + 1) va) a' → Hold most days evs ok M w [.int .i64 day, .int .i64 a, .int .i64 b, .int .i64 c, .int .i64 d] wr.heap.size kk va qs w' → Q .normal a' w') :
    (loopBody (blk Try.f81 0)).wp Try.prog Q (mkF 119 (fixO Bs Bm Bf w.heap.size T set va) x) wr := by
  have PX := hH.pctx hx
  have s1 := PX.seals.cell (j := 1) rfl
  have s4 := PX.seals.lt
  have b0 := hH.own4.cell (j := 0) rfl
  have b1 := hH.own4.cell (j := 1) rfl
  have b2 := hH.own4.cell (j := 2) rfl
  have b3 := hH.own4.cell (j := 3) rfl
  have b4 := hH.own4.cell (j := 4) rfl
  have bl := hH.own4.lt
  rw [hN] at s1
  have h2 : Hold most days evs ok M w [.int .i64 day, .int .i64 a, .int .i64 b, .int .i64 c, .int .i64 d] wr.heap.size kk va qs (wr.alloc (.cells [.int .i64 (day + 1), .int .i64 a, .int .i64 b, .int .i64 c, .int .i64 d].toArray 143)) := hH.ext (Ext.alloc _ _)
  have hinn : InnR most days evs ok M w [.int .i64 day, .int .i64 a, .int .i64 b, .int .i64 c, .int .i64 d] wr.heap.size kk va qs day set [a, b, c, d] 0 (.slice none 0 0) (wr.alloc (.cells [.int .i64 (day + 1), .int .i64 a, .int .i64 b, .int .i64 c, .int .i64 d].toArray 143)) :=
    ⟨h2, OwnB.laid wr 143 [.int .i64 (day + 1), .int .i64 a, .int .i64 b, .int .i64 c, .int .i64 d], World.ownsRow_nil _ _ _ _⟩
  have HInn := Lib.hid hinn
  have HX := Lib.hid hx
  have HN := Lib.hid hN
  have HEv := Lib.hid hev
  have HU := Lib.hid hu
  have HBb := Lib.hid hbb
  have HNext := Lib.hid hnext
  clear hx hN hev hu hbb hnext PX hinn h2 hH
  show Code.wp Try.prog _ Q { tmps := #[x 0, .pointer (some ⟨Bs, 0, none⟩), .pointer (some ⟨Bm, 0, none⟩), .pointer (some ⟨Bf, 0, none⟩), .pointer (some ⟨w.heap.size, 0, none⟩), .pointer (some ⟨w.heap.size + 1, 0, none⟩), x 6, x 7, va, x 9, x 10, x 11, x 12, x 13, x 14, x 15, x 16, x 17, x 18, x 19, x 20, x 21, x 22, x 23, x 24, x 25, x 26, x 27, x 28, x 29, x 30, x 31, x 32, x 33, .int .i64 T, .int .i64 set, x 36, x 37, x 38, x 39, x 40, x 41, x 42, x 43, x 44, x 45, x 46, x 47, x 48, x 49, x 50, x 51, x 52, x 53, x 54, x 55, x 56, x 57, x 58, x 59, x 60, x 61, x 62, x 63, x 64, x 65, x 66, x 67, x 68, x 69, x 70, x 71, x 72, x 73, x 74, x 75, x 76, x 77, x 78, x 79, x 80, x 81, x 82, x 83, x 84, x 85, x 86, x 87, x 88, x 89, x 90, x 91, x 92, x 93, x 94, x 95, x 96, x 97, x 98, x 99, x 100, x 101, x 102, x 103, x 104, x 105, x 106, x 107, x 108, x 109, x 110, x 111, x 112, x 113, x 114, x 115, x 116, x 117, x 118], defers := [] } wr
  conv => arg 2; whnf
  go_upto_block 2 with (fail)
  refine inner_any Al cl Ae ce most days evs Bs Bm Bf M hd N HN.out hn HEv.out ok w HX.out day hday set T wr.heap.size kk (by omega) va qs [a, b, c, d] HU.out _ (.slice none 0 0) _ HInn.out _ ⟨rfl, rfl, by repeat (first | exact trivial | refine ⟨rfl, ?_⟩)⟩ _ ?_
  rintro a' wi vt' ha' ⟨hH2, hNx, hRow⟩
  rw [HBb.out] at ha'
  have hul := innS_len days evs day set [a, b, c, d] N
  have htl := innS_few days evs day set [a, b, c, d] N
  have hsm := innS_small days evs day set [a, b, c, d] hd hday HEv.out HU.out N
  generalize hpp : innS days evs day set [a, b, c, d] N = pp at *
  have HPp := Lib.hid hpp
  obtain ⟨uu, tt, bb⟩ := pp
  dsimp only at hNx hRow hul htl hsm HBb
  obtain ⟨At, ct, rfl⟩ := own_form hRow
  obtain ⟨y, rfl⟩ := ha'.lit
  have PX := hH2.pctx HX.out
  have s2 := PX.seals.cell (j := 2) rfl
  have s4 := PX.seals.lt
  have HH2 := Lib.hid hH2
  have HNx := Lib.hid hNx
  have HRow := Lib.hid hRow
  have HSm := Lib.hid hsm
  have HPX := Lib.hid PX
  clear hH2 hNx hRow hsm PX hul ha' hpp s1 b0 b1 b2 b3 b4 HBb
  show Exit.then _ _ .normal ({ tmps := #[y 0, .pointer (some ⟨Bs, 0, none⟩), .pointer (some ⟨Bm, 0, none⟩), .pointer (some ⟨Bf, 0, none⟩), .pointer (some ⟨w.heap.size, 0, none⟩), .pointer (some ⟨w.heap.size + 1, 0, none⟩), y 6, y 7, va, .int .i64 set, .pointer (some ⟨wr.heap.size, 0, none⟩), .slice At tt.length ct, .bool false, y 13, y 14, y 15, y 16, y 17, y 18, y 19, y 20, y 21, y 22, y 23, y 24, y 25, y 26, y 27, y 28, y 29, y 30, y 31, y 32, y 33, .int .i64 T, .int .i64 set, y 36, y 37, y 38, y 39, y 40, y 41, y 42, y 43, y 44, .slice Ae N ce, .int .i64 N, .int .i64 N, y 48, y 49, y 50, y 51, y 52, y 53, y 54, y 55, y 56, y 57, y 58, y 59, y 60, y 61, y 62, y 63, y 64, y 65, y 66, y 67, y 68, y 69, y 70, y 71, y 72, y 73, y 74, y 75, y 76, y 77, y 78, y 79, y 80, y 81, y 82, y 83, y 84, y 85, y 86, y 87, y 88, y 89, y 90, y 91, y 92, y 93, y 94, y 95, y 96, y 97, y 98, y 99, y 100, y 101, y 102, y 103, y 104, y 105, y 106, y 107, y 108, y 109, y 110, y 111, y 112, y 113, y 114, y 115, y 116, y 117, y 118], defers := [] }) wi
  go_wp2
  exact HNext.out _ _ ⟨rfl, rfl, by repeat (first | exact trivial | refine ⟨rfl, ?_⟩)⟩ HH2.out
set_option maxRecDepth 100000 in
set_option maxHeartbeats 2000000 in
theorem outer_skip_t (Al : Option Addr) (cl : Nat) (Ae : Option Addr) (ce : Nat) (most days : Int) (evs : List Int) (Bs Bm Bf M : Nat) (hd : 0 ≤ days ∧ days ≤ 10) (N : Nat) (hN : evs.length = N) (hn : N ≤ 4) (hev : ∀ x ∈ evs, 0 ≤ x ∧ x ≤ 10) (ok : Nat → Prop) (w : World)
    (hx : PCtx (.slice Al evs.length cl) (.slice Ae evs.length ce) most days evs Bs Bm Bf M w) (day : Int) (hday : 0 ≤ day ∧ day ≤ 10) (set T kk : Nat) (hset : set < T) (hT : T ≤ 16) (va : Value) (qs : List Raw) (a b c d : Int) (hu : Smalls [a, b, c, d]) (wr : World)
    (hH : Hold most days evs ok M w [.int .i64 day, .int .i64 a, .int .i64 b, .int .i64 c, .int .i64 d] wr.heap.size kk va qs wr) (hbb : (innS days evs day set [a, b, c, d] N).2.2 = true) (hmost : ¬ (((innS days evs day set [a, b, c, d] N).2.1.length : Int) ≤ most)) (x : Nat → Value) (Q : Exit → Act → World → Prop)
    (hnext : ∀ a' w', HasF 119 (fixO Bs Bm Bf w.heap.size T (set + 1) va) a' → Hold most days evs ok M w [.int .i64 day, .int .i64 a, .int .i64 b, .int .i64 c, .int .i64 d] wr.heap.size kk va qs w' → Q .normal a' w') :
    (loopBody (blk Try.f81 0)).wp Try.prog Q (mkF 119 (fixO Bs Bm Bf w.heap.size T set va) x) wr := by
  have PX := hH.pctx hx
  have s1 := PX.seals.cell (j := 1) rfl
  have s4 := PX.seals.lt
  have b0 := hH.own4.cell (j := 0) rfl
  have b1 := hH.own4.cell (j := 1) rfl
  have b2 := hH.own4.cell (j := 2) rfl
  have b3 := hH.own4.cell (j := 3) rfl
  have b4 := hH.own4.cell (j := 4) rfl
  have bl := hH.own4.lt
  rw [hN] at s1
  have h2 : Hold most days evs ok M w [.int .i64 day, .int .i64 a, .int .i64 b, .int .i64 c, .int .i64 d] wr.heap.size kk va qs (wr.alloc (.cells [.int .i64 (day + 1), .int .i64 a, .int .i64 b, .int .i64 c, .int .i64 d].toArray 143)) := hH.ext (Ext.alloc _ _)
  have hinn : InnR most days evs ok M w [.int .i64 day, .int .i64 a, .int .i64 b, .int .i64 c, .int .i64 d] wr.heap.size kk va qs day set [a, b, c, d] 0 (.slice none 0 0) (wr.alloc (.cells [.int .i64 (day + 1), .int .i64 a, .int .i64 b, .int .i64 c, .int .i64 d].toArray 143)) :=
    ⟨h2, OwnB.laid wr 143 [.int .i64 (day + 1), .int .i64 a, .int .i64 b, .int .i64 c, .int .i64 d], World.ownsRow_nil _ _ _ _⟩
  have HInn := Lib.hid hinn
  have HX := Lib.hid hx
  have HN := Lib.hid hN
  have HEv := Lib.hid hev
  have HU := Lib.hid hu
  have HBb := Lib.hid hbb
  have HNext := Lib.hid hnext
  clear hx hN hev hu hbb hnext PX hinn h2 hH
  show Code.wp Try.prog _ Q { tmps := #[x 0, .pointer (some ⟨Bs, 0, none⟩), .pointer (some ⟨Bm, 0, none⟩), .pointer (some ⟨Bf, 0, none⟩), .pointer (some ⟨w.heap.size, 0, none⟩), .pointer (some ⟨w.heap.size + 1, 0, none⟩), x 6, x 7, va, x 9, x 10, x 11, x 12, x 13, x 14, x 15, x 16, x 17, x 18, x 19, x 20, x 21, x 22, x 23, x 24, x 25, x 26, x 27, x 28, x 29, x 30, x 31, x 32, x 33, .int .i64 T, .int .i64 set, x 36, x 37, x 38, x 39, x 40, x 41, x 42, x 43, x 44, x 45, x 46, x 47, x 48, x 49, x 50, x 51, x 52, x 53, x 54, x 55, x 56, x 57, x 58, x 59, x 60, x 61, x 62, x 63, x 64, x 65, x 66, x 67, x 68, x 69, x 70, x 71, x 72, x 73, x 74, x 75, x 76, x 77, x 78, x 79, x 80, x 81, x 82, x 83, x 84, x 85, x 86, x 87, x 88, x 89, x 90, x 91, x 92, x 93, x 94, x 95, x 96, x 97, x 98, x 99, x 100, x 101, x 102, x 103, x 104, x 105, x 106, x 107, x 108, x 109, x 110, x 111, x 112, x 113, x 114, x 115, x 116, x 117, x 118], defers := [] } wr
  conv => arg 2; whnf
  go_upto_block 2 with (fail)
  refine inner_any Al cl Ae ce most days evs Bs Bm Bf M hd N HN.out hn HEv.out ok w HX.out day hday set T wr.heap.size kk (by omega) va qs [a, b, c, d] HU.out _ (.slice none 0 0) _ HInn.out _ ⟨rfl, rfl, by repeat (first | exact trivial | refine ⟨rfl, ?_⟩)⟩ _ ?_
  rintro a' wi vt' ha' ⟨hH2, hNx, hRow⟩
  rw [HBb.out] at ha'
  have hul := innS_len days evs day set [a, b, c, d] N
  have htl := innS_few days evs day set [a, b, c, d] N
  have hsm := innS_small days evs day set [a, b, c, d] hd hday HEv.out HU.out N
  generalize hpp : innS days evs day set [a, b, c, d] N = pp at *
  have HPp := Lib.hid hpp
  obtain ⟨uu, tt, bb⟩ := pp
  dsimp only at hNx hRow hul htl hsm HBb hmost
  obtain ⟨At, ct, rfl⟩ := own_form hRow
  obtain ⟨y, rfl⟩ := ha'.lit
  have PX := hH2.pctx HX.out
  have s2 := PX.seals.cell (j := 2) rfl
  have s4 := PX.seals.lt
  have HH2 := Lib.hid hH2
  have HNx := Lib.hid hNx
  have HRow := Lib.hid hRow
  have HSm := Lib.hid hsm
  have HPX := Lib.hid PX
  clear hH2 hNx hRow hsm PX hul ha' hpp s1 b0 b1 b2 b3 b4 HBb
  have hm1 : decide (most < (tt.length : Int)) = true := by simp; omega
  clear hmost
  show Exit.then _ _ .normal ({ tmps := #[y 0, .pointer (some ⟨Bs, 0, none⟩), .pointer (some ⟨Bm, 0, none⟩), .pointer (some ⟨Bf, 0, none⟩), .pointer (some ⟨w.heap.size, 0, none⟩), .pointer (some ⟨w.heap.size + 1, 0, none⟩), y 6, y 7, va, .int .i64 set, .pointer (some ⟨wr.heap.size, 0, none⟩), .slice At tt.length ct, .bool true, y 13, y 14, y 15, y 16, y 17, y 18, y 19, y 20, y 21, y 22, y 23, y 24, y 25, y 26, y 27, y 28, y 29, y 30, y 31, y 32, y 33, .int .i64 T, .int .i64 set, y 36, y 37, y 38, y 39, y 40, y 41, y 42, y 43, y 44, .slice Ae N ce, .int .i64 N, .int .i64 N, y 48, y 49, y 50, y 51, y 52, y 53, y 54, y 55, y 56, y 57, y 58, y 59, y 60, y 61, y 62, y 63, y 64, y 65, y 66, y 67, y 68, y 69, y 70, y 71, y 72, y 73, y 74, y 75, y 76, y 77, y 78, y 79, y 80, y 81, y 82, y 83, y 84, y 85, y 86, y 87, y 88, y 89, y 90, y 91, y 92, y 93, y 94, y 95, y 96, y 97, y 98, y 99, y 100, y 101, y 102, y 103, y 104, y 105, y 106, y 107, y 108, y 109, y 110, y 111, y 112, y 113, y 114, y 115, y 116, y 117, y 118], defers := [] }) wi
  go_wp2
  exact HNext.out _ _ ⟨rfl, rfl, by repeat (first | exact trivial | refine ⟨rfl, ?_⟩)⟩ HH2.out
end Go.Proofs.Ytebfnjabgkhngaa
end
section
set_option linter.all false
set_option linter.unusedVariables false
set_option linter.unusedSimpArgs false
set_option linter.constructorNameAsVariable false
set_option linter.unusedVariables false
namespace Go.Proofs.Ytebfnjabgkhngaa
open Go.RowKit Go.RT
theorem region_gen {P : Program} {id : Nat} {l : List Oper} {Q : Exit → Act → World → Prop} {a : Act} {w : World} (n : Nat) (sps : List (Nat × Sp)) (Eff : Nat → World → World → Prop) (S : World → Prop)
    (hm : P.follows .mixedOrders = true)
    (hck : (checkB l.toArray n (Region.before l.toArray) && decide (n ≤ l.length) && (decide (l.length ≤ n) || (Region.sinkB .any l.toArray n && Region.chainB .any l.toArray n)) &&
      Region.seqB .any l.toArray (l.length - n) n ((List.replicate n true ++ List.replicate (l.length - n) false).toArray)) = true)
    (hS0 : S w.drew) (hS : ∀ i w w', S w → Eff i w w' → S w') (hF : ∀ j s i, spOf sps j = some s → i ≠ j → ∀ xs v w w', s.fact xs v w → Eff i w w' → s.fact xs v w')
    (h : wpR P l.toArray (spOf sps) Eff S (fun i j => ((Region.before l.toArray).getD i 0).testBit j) Q
      (fun led a => ∀ w', S w' → AllOf led w' → wpList P l.toArray Q (l.drop n) a w') (l.take n) 0 [] a) :
    (Code.region id l.toArray true).wp P Q a w := by
  simp only [Bool.and_eq_true, decide_eq_true_eq] at hck
  obtain ⟨⟨⟨h1, h2⟩, h3⟩, h4⟩ := hck
  exact wp_region_rt n _ (spOf sps) Eff S hm h1 h2 h3 h4 hS0 hS hF h
theorem made_app {P : Program} {Eff : Nat → World → World → Prop} {Q : Exit → Act → World → Prop} {k : Nat} {s : Sp} {o : Oper} {a : Act} {w : World} {sx xx : Operand} {t : TypeId} {v u : Value}
    (hop : o.op = .call { callee := .builtin .append, args := #[sx, xx], argTypes := #[t, t] }) (hs : a.eval sx = v) (hx : a.eval xx = u)
    (h : ∃ v' w', (Builtin.append_ #[t, t] o.type #[v, u]).run P w = .ok v' w' ∧ s.rng v' ∧ s.fact (opvals o a) v' w' ∧ Eff k w w') : Made P Eff Q k s o a w := by
  obtain ⟨v', w', hr, h1, h2, h3⟩ := h
  refine made_val ?_ h1 h2 h3
  unfold execOp
  simp only [hop, resolve, invoke, builtin, Sem.run_bind, Sem.run_pure, Result.andThen_ok, List.map_toArray, List.map_cons, List.map_nil, hs, hx, hr]
theorem row_ne {w : World} {B B' n n' size size' : Nat} {T T' : TypeId} {v v' : Value} {xs xs' : List Value} (h : w.ownsRow B T size v n xs) (h' : w.ownsRow B' T' size' v' n' xs') (hT : T ≠ T') : v.ownBlock = none ∨ v.ownBlock ≠ v'.ownBlock := by
  rcases h.2 with ⟨rfl, _⟩ | ⟨g, cap, cur, rfl, _, hg, _⟩
  · exact .inl rfl
  · refine .inr fun e => ?_
    rcases h'.2 with ⟨rfl, _⟩ | ⟨g', cap', cur', rfl, _, hg', _⟩
    · simp [Value.ownBlock] at e
    · have : g = g' := by simpa [Value.ownBlock] using e
      subst this
      rw [hg] at hg'
      cases hg'
      exact hT rfl
theorem Mine.row {ok : Nat → Prop} {w w' : World} {A : Option Addr} {c : Nat} {p : Plan} {B n size : Nat} {T : TypeId} {v : Value} {xs : List Value} (h : Mine ok w A c p) (hr : w.ownsRow B T size v n xs) (hT : 100 ≠ T) (hg : w.grownBy w' v.ownBlock) : Mine ok w' A c p :=
  ⟨h.1.kept hg (row_ne h.1 hr hT), h.2⟩
def spTests (B n : Nat) (ts : List D) : Sp := ⟨fun v => ∃ A c, v = .slice A n c, ⟨_, none, 0, rfl⟩, fun _ v w => w.ownsRow B 100 2 v n (ts.flatMap encD)⟩
def EffT (B : Nat) (vt : Value) (ts : List D) (i : Nat) (w w' : World) : Prop := if i = 4 then GB 100 2 B vt ts.length (ts.flatMap encD) w w' else Ext w w'
theorem effT_gb {B : Nat} {vt : Value} {ts : List D} {i : Nat} {w w' : World} (h : EffT B vt ts i w w') : GB 100 2 B vt ts.length (ts.flatMap encD) w w' := by
  unfold EffT at h
  split at h
  · exact h
  · exact GB.of_ext h
def spPlan (B : Nat) : Sp := ⟨fun v => ∃ b : Nat, B ≤ b ∧ v = .slice (some ⟨b, 0, none⟩) 1 1, ⟨_, B, Nat.le_refl _, rfl⟩, fun xs v w => ∀ b : Nat, v = .slice (some ⟨b, 0, none⟩) 1 1 → B ≤ b ∧ OwnB w b 145 (xs.toList.flatMap fun x => x.cells.toList)⟩
theorem sp23_keeps {B B' B8 n : Nat} {ts ts' : List D} {vt : Value} (hvt : ∀ r, vt.ownBlock = some r → r < B8) (j : Nat) (s : Sp) (i : Nat) (hs : spOf [(4, spTests B n ts), (8, spPlan B8)] j = some s) (hij : i ≠ j) (xs : Array Value) (v : Value) (w w' : World) (hf : s.fact xs v w) (he : EffT B' vt ts' i w w') : s.fact xs v w' := by
  simp only [spOf] at hs
  split at hs
  · cases hs
    rename_i e
    subst e
    unfold EffT at he
    rw [if_neg hij] at he
    exact own_ext hf he
  · split at hs
    · cases hs
      intro b hb
      obtain ⟨h1, h2⟩ := hf b hb
      have hg := (effT_gb he).1
      exact ⟨h1, (hg.block b h2.lt (fun e => by have := hvt b e.symm; omega)).trans h2⟩
    · cases hs
theorem cells_own {w : World} {b : Nat} {T : TypeId} {cs : List Value} (h : OwnB w b T cs) : ∀ j u, cs[j]? = some u → w.cell? ((⟨b, 0, none⟩ : Addr).add j) = some u := fun j u hu => by
  have := h.cell hu
  by_cases h0 : j = 0
  · subst h0; simpa [Addr.add] using this
  · simpa [Addr.add, h0] using this
structure Rest (M : Nat) (w : World) (mcs : List Value) (L : Nat) (va : Value) (qs : List Raw) (wi : World) : Prop where
  but : But M w wi
  own4 : OwnB wi w.heap.size 143 mcs
  own5 : OwnB wi (w.heap.size + 1) 145 [.slice none 0 0, .bool false]
  all : wi.ownsRow (w.heap.size + 2) 145 2 va qs.length (qs.flatMap encQ)
  allLt : ∀ g, va.ownBlock = some g → g < L
  mine : ∀ q ∈ qs, Mine (fun g => w.heap.size ≤ g ∧ g < L) wi q.1 q.2.1 q.2.2
  lo : w.heap.size + 2 < L
  hi : L ≤ wi.heap.size
section
set_option linter.all false
set_option linter.unusedVariables false
set_option linter.unusedSimpArgs false
set_option linter.constructorNameAsVariable false
variable {M : Nat} {w : World} {mcs : List Value} {L : Nat} {va : Value} {qs : List Raw} {wi wi' : World}
theorem Rest.ext (h : Rest M w mcs L va qs wi) (he : Ext wi wi') : Rest M w mcs L va qs wi' :=
  ⟨but_ext h.but he, h.own4.ext he, h.own5.ext he, own_ext h.all he, h.allLt, fun q hq => (h.mine q hq).ext he, h.lo, Nat.le_trans h.hi he.size⟩
theorem Rest.new {row : Option Nat} (h : Rest M w mcs L va qs wi) (hg : wi.grownBy wi' row) (hr : ∀ r, row = some r → L ≤ r) : Rest M w mcs L va qs wi' := by
  have hlo := h.lo
  refine ⟨but_new h.but hg (fun r e => by have := hr r e; omega), ?_, ?_, ?_, h.allLt, ?_, h.lo, Nat.le_trans h.hi hg.size⟩
  · exact (hg.block _ h.own4.lt (fun e => by have := hr _ e.symm; omega)).trans h.own4
  · exact (hg.block _ h.own5.lt (fun e => by have := hr _ e.symm; omega)).trans h.own5
  · refine h.all.kept hg ?_
    cases hv : va.ownBlock with
    | none => exact .inl rfl
    | some g => exact .inr (fun e => by have := hr g e.symm; have := h.allLt g hv; omega)
  · exact fun q hq => (h.mine q hq).kept hg (fun r e hk => by have := hr r e; omega)
theorem Rest.call (h : Rest M w mcs L va qs wi) (hg : But M wi wi') (hM : ∃ o : Obj, wi.heap[M]? = some o ∧ o.isCells = false) : Rest M w mcs L va qs wi' :=
  have hr : ∀ r, some M = some r → ∃ o : Obj, wi.heap[r]? = some o ∧ o.isCells = false := fun r e => by cases e; exact hM
  ⟨but_trans h.but hg, h.own4.but (ne_map hM h.own4).symm hg, h.own5.but (ne_map hM h.own5).symm hg, own_grown h.all hg hr, h.allLt, fun q hq => (h.mine q hq).grown hg hr, h.lo, Nat.le_trans h.hi hg.size⟩
end
theorem Hold.rest {most days : Int} {evs : List Int} {ok : Nat → Prop} {M : Nat} {w : World} {mcs : List Value} {L kk : Nat} {va : Value} {qs : List Raw} {wi : World} (h : Hold most days evs ok M w mcs L kk va qs wi) : Rest M w mcs L va qs wi :=
  ⟨h.but, h.own4, h.own5, h.all, h.allLt, h.mine, h.lo, h.hi⟩
theorem ownsRow_base {w : World} {B B' n size : Nat} {T : TypeId} {v : Value} {xs : List Value} (h : w.ownsRow B T size v n xs) (hb : B' ≤ B) : w.ownsRow B' T size v n xs := by
  refine ⟨h.1, h.2.imp id ?_⟩
  rintro ⟨g, cap, cur, h1, h2, h3⟩
  exact ⟨g, cap, cur, h1, by omega, h3⟩
theorem hold_end {most days : Int} {evs : List Int} {ok ok' : Nat → Prop} {M : Nat} {w : World} {mcs : List Value} {L kk : Nat} {va : Value} {qs : List Raw} {w5 w6 : World} (hR : Rest M w mcs L va qs w5) (hm : MapOk most days evs ok' M w5 kk) (hok : ∀ b, ok' b → ok b)
    {A5 : Option Addr} {c5 n5 : Nat} {p5 : Plan} (hn5 : p5.tests.length = n5) (h5 : w5.ownsRow (L + 1) 100 2 (.slice A5 n5 c5) n5 (p5.tests.flatMap encD)) {v6 : Value} (h6 : w6.ownsRow (w.heap.size + 2) 145 2 v6 (qs.length + 1) (qs.flatMap encQ ++ [.slice A5 n5 c5, .bool p5.some])) (hg : w5.grownBy w6 va.ownBlock) :
    Hold most days evs ok M w mcs w6.heap.size kk v6 (qs ++ [(A5, c5, p5)]) w6 := by
  subst hn5
  have hlo := hR.lo
  have hhi := hR.hi
  have hgs := hg.size
  have hal : ∀ r, va.ownBlock = some r → w.heap.size + 2 ≤ r := fun r hr => (hR.all.lt r hr).1
  refine ⟨but_new hR.but hg (fun r e => by have := hal r e; omega), ?_, ?_, ?_, ?_, fun g hg' => (h6.lt g hg').2, ?_, by omega, Nat.le_refl _⟩
  · refine (hm.map (ok' := ok') (Nat.le_refl _) hg (fun e => ne_map_row hm.notcells hR.all M e.symm rfl) fun A c p hmm => hmm.row hR.all (by decide) hg).weak (Nat.le_refl _) fun b hb h => ⟨hok b h, hb⟩
  · exact (hg.block _ hR.own4.lt (fun e => by have := hal _ e.symm; omega)).trans hR.own4
  · exact (hg.block _ hR.own5.lt (fun e => by have := hal _ e.symm; omega)).trans hR.own5
  · rw [List.length_append, List.flatMap_append]; exact h6
  · intro q hq
    rcases List.mem_append.1 hq with hq | hq
    · exact ((hR.mine q hq).row hR.all (by decide) hg).mono fun b hb h => ⟨h.1, hb⟩
    · simp only [List.mem_cons, List.not_mem_nil, or_false] at hq
      subst hq
      have hM : Mine (fun g => w.heap.size ≤ g) w5 A5 c5 p5 := ⟨ownsRow_base h5 (Nat.zero_le _), fun g hg' => by have := (h5.lt g hg').1; omega⟩
      exact (hM.row hR.all (by decide) hg).mono fun b hb h => ⟨h, hb⟩
set_option maxRecDepth 100000 in
set_option maxHeartbeats 2000000 in
theorem outer_call (Al : Option Addr) (cl : Nat) (Ae : Option Addr) (ce : Nat) (most days : Int) (evs : List Int) (Bs Bm Bf M : Nat) (hd : 0 ≤ days ∧ days ≤ 10) (N : Nat) (hN : evs.length = N) (hn : N ≤ 4) (hev : ∀ x ∈ evs, 0 ≤ x ∧ x ≤ 10) (ok : Nat → Prop) (w : World)
    (hx : PCtx (.slice Al evs.length cl) (.slice Ae evs.length ce) most days evs Bs Bm Bf M w) (day : Int) (hday : 0 ≤ day ∧ day ≤ 10) (set T kk : Nat) (hset : set < T) (hT : T ≤ 16) (va : Value) (qs : List Raw) (a b c d : Int) (hu : Smalls [a, b, c, d]) (wr : World)
    (hH : Hold most days evs ok M w [.int .i64 day, .int .i64 a, .int .i64 b, .int .i64 c, .int .i64 d] wr.heap.size kk va qs wr) (hbb : (innS days evs day set [a, b, c, d] N).2.2 = true) (hmost : (((innS days evs day set [a, b, c, d] N).2.1.length : Int) ≤ most)) (f : Nat) (hsub : FromOk Al cl Ae ce most days evs Bs Bm Bf M f) (hf : days - (f : Int) = day) (hf1 : (f : Int) ≤ days + 1) (hok : ∀ b, w.heap.size ≤ b → ok b) (hroom : Room (kk + cost f)) (hqs : qs.length ≤ 16) (x : Nat → Value) (Q : Exit → Act → World → Prop)
    (hnext : ∀ a' w' va' A' c', HasF 119 (fixO Bs Bm Bf w.heap.size T (set + 1) va') a' → Hold most days evs ok M w [.int .i64 day, .int .i64 a, .int .i64 b, .int .i64 c, .int .i64 d] w'.heap.size (kk + cost f) va' (qs ++ [(A', c', ⟨(innS days evs day set [a, b, c, d] N).2.1 ++ (planS most days evs f (innS days evs day set [a, b, c, d] N).1).tests, (planS most days evs f (innS days evs day set [a, b, c, d] N).1).some⟩)]) w' → Q .normal a' w') :
    (loopBody (blk Try.f81 0)).wp Try.prog Q (mkF 119 (fixO Bs Bm Bf w.heap.size T set va) x) wr := by
  have PX := hH.pctx hx
  have s1 := PX.seals.cell (j := 1) rfl
  have s4 := PX.seals.lt
  have b0 := hH.own4.cell (j := 0) rfl
  have b1 := hH.own4.cell (j := 1) rfl
  have b2 := hH.own4.cell (j := 2) rfl
  have b3 := hH.own4.cell (j := 3) rfl
  have b4 := hH.own4.cell (j := 4) rfl
  have bl := hH.own4.lt
  rw [hN] at s1
  have h2 : Hold most days evs ok M w [.int .i64 day, .int .i64 a, .int .i64 b, .int .i64 c, .int .i64 d] wr.heap.size kk va qs (wr.alloc (.cells [.int .i64 (day + 1), .int .i64 a, .int .i64 b, .int .i64 c, .int .i64 d].toArray 143)) := hH.ext (Ext.alloc _ _)
  have hinn : InnR most days evs ok M w [.int .i64 day, .int .i64 a, .int .i64 b, .int .i64 c, .int .i64 d] wr.heap.size kk va qs day set [a, b, c, d] 0 (.slice none 0 0) (wr.alloc (.cells [.int .i64 (day + 1), .int .i64 a, .int .i64 b, .int .i64 c, .int .i64 d].toArray 143)) :=
    ⟨h2, OwnB.laid wr 143 [.int .i64 (day + 1), .int .i64 a, .int .i64 b, .int .i64 c, .int .i64 d], World.ownsRow_nil _ _ _ _⟩
  have HInn := Lib.hid hinn
  have HX := Lib.hid hx
  have HN := Lib.hid hN
  have HEv := Lib.hid hev
  have HU := Lib.hid hu
  have HBb := Lib.hid hbb
  have HNext := Lib.hid hnext
  have HSub := Lib.hid hsub
  have HF := Lib.hid hf
  have HOk := Lib.hid hok
  have HRoom := Lib.hid hroom
  clear hsub hf hok hroom
  clear hx hN hev hu hbb hnext PX hinn h2 hH
  show Code.wp Try.prog _ Q { tmps := #[x 0, .pointer (some ⟨Bs, 0, none⟩), .pointer (some ⟨Bm, 0, none⟩), .pointer (some ⟨Bf, 0, none⟩), .pointer (some ⟨w.heap.size, 0, none⟩), .pointer (some ⟨w.heap.size + 1, 0, none⟩), x 6, x 7, va, x 9, x 10, x 11, x 12, x 13, x 14, x 15, x 16, x 17, x 18, x 19, x 20, x 21, x 22, x 23, x 24, x 25, x 26, x 27, x 28, x 29, x 30, x 31, x 32, x 33, .int .i64 T, .int .i64 set, x 36, x 37, x 38, x 39, x 40, x 41, x 42, x 43, x 44, x 45, x 46, x 47, x 48, x 49, x 50, x 51, x 52, x 53, x 54, x 55, x 56, x 57, x 58, x 59, x 60, x 61, x 62, x 63, x 64, x 65, x 66, x 67, x 68, x 69, x 70, x 71, x 72, x 73, x 74, x 75, x 76, x 77, x 78, x 79, x 80, x 81, x 82, x 83, x 84, x 85, x 86, x 87, x 88, x 89, x 90, x 91, x 92, x 93, x 94, x 95, x 96, x 97, x 98, x 99, x 100, x 101, x 102, x 103, x 104, x 105, x 106, x 107, x 108, x 109, x 110, x 111, x 112, x 113, x 114, x 115, x 116, x 117, x 118], defers := [] } wr
  conv => arg 2; whnf
  go_upto_block 2 with (fail)
  refine inner_any Al cl Ae ce most days evs Bs Bm Bf M hd N HN.out hn HEv.out ok w HX.out day hday set T wr.heap.size kk (by omega) va qs [a, b, c, d] HU.out _ (.slice none 0 0) _ HInn.out _ ⟨rfl, rfl, by repeat (first | exact trivial | refine ⟨rfl, ?_⟩)⟩ _ ?_
  rintro a' wi vt' ha' ⟨hH2, hNx, hRow⟩
  rw [HBb.out] at ha'
  have hul := innS_len days evs day set [a, b, c, d] N
  have htl := innS_few days evs day set [a, b, c, d] N
  have hsm := innS_small days evs day set [a, b, c, d] hd hday HEv.out HU.out N
  generalize hpp : innS days evs day set [a, b, c, d] N = pp at *
  have HPp := Lib.hid hpp
  obtain ⟨uu, tt, bb⟩ := pp
  dsimp only at hNx hRow hul htl hsm HBb hmost HNext
  obtain ⟨At, ct, rfl⟩ := own_form hRow
  obtain ⟨y, rfl⟩ := ha'.lit
  have PX := hH2.pctx HX.out
  have s2 := PX.seals.cell (j := 2) rfl
  have s4 := PX.seals.lt
  have HH2 := Lib.hid hH2
  have HNx := Lib.hid hNx
  have HRow := Lib.hid hRow
  have HSm := Lib.hid hsm
  have HPX := Lib.hid PX
  clear hH2 hNx hRow hsm PX hul ha' hpp s1 b0 b1 b2 b3 b4 HBb
  have hm1 : decide (most < (tt.length : Int)) = false := by simp; omega
  clear hmost
  obtain ⟨a1, b1, c1, d1, rfl⟩ := smalls_four HSm.out
  have n0 := HNx.out.cell (j := 0) rfl
  have n1 := HNx.out.cell (j := 1) rfl
  have n2 := HNx.out.cell (j := 2) rfl
  have n3 := HNx.out.cell (j := 3) rfl
  have n4 := HNx.out.cell (j := 4) rfl
  have nl := HNx.out.lt
  have f0 := HPX.out.self.cell (j := 0) rfl
  have fl := HPX.out.self.lt
  have hcall := HSub.out (fun b => ok b ∧ some b ≠ (Value.slice At tt.length ct).ownBlock) [a1, b1, c1, d1] kk wi HPX.out (HH2.out.map.weak (Nat.le_refl _) (fun b _ hb => ⟨hb.1, fun e => by have := (HRow.out.lt b e.symm).1; have := hb.2; omega⟩))
    (fun b hb => ⟨HOk.out b (by have := HH2.out.hi; have := HH2.out.lo; omega), fun e => by have := (HRow.out.lt b e.symm).2; omega⟩) HSm.out HRoom.out hf1
  rw [show days + 1 - (f : Int) = day + 1 by have := HF.out; omega] at hcall
  have HCall := Lib.hid (show Calls Try.prog 81 #[.agg #[.int .i64 (day + 1), .int .i64 a1, .int .i64 b1, .int .i64 c1, .int .i64 d1], .pointer (some ⟨Bs, 0, none⟩), .pointer (some ⟨Bm, 0, none⟩), .pointer (some ⟨Bf, 0, none⟩)] wi (FromPost most days evs (fun b => ok b ∧ some b ≠ (Value.slice At tt.length ct).ownBlock) M f kk [a1, b1, c1, d1] wi) from hcall)
  have hpf := planS_few most days evs (by have := HN.out; omega) f [a1, b1, c1, d1]
  unfold FromPost at HCall
  clear hcall
  generalize planS most days evs f [a1, b1, c1, d1] = p at *
  show Exit.then _ _ .normal ({ tmps := #[y 0, .pointer (some ⟨Bs, 0, none⟩), .pointer (some ⟨Bm, 0, none⟩), .pointer (some ⟨Bf, 0, none⟩), .pointer (some ⟨w.heap.size, 0, none⟩), .pointer (some ⟨w.heap.size + 1, 0, none⟩), y 6, y 7, va, .int .i64 set, .pointer (some ⟨wr.heap.size, 0, none⟩), .slice At tt.length ct, .bool true, y 13, y 14, y 15, y 16, y 17, y 18, y 19, y 20, y 21, y 22, y 23, y 24, y 25, y 26, y 27, y 28, y 29, y 30, y 31, y 32, y 33, .int .i64 T, .int .i64 set, y 36, y 37, y 38, y 39, y 40, y 41, y 42, y 43, y 44, .slice Ae N ce, .int .i64 N, .int .i64 N, y 48, y 49, y 50, y 51, y 52, y 53, y 54, y 55, y 56, y 57, y 58, y 59, y 60, y 61, y 62, y 63, y 64, y 65, y 66, y 67, y 68, y 69, y 70, y 71, y 72, y 73, y 74, y 75, y 76, y 77, y 78, y 79, y 80, y 81, y 82, y 83, y 84, y 85, y 86, y 87, y 88, y 89, y 90, y 91, y 92, y 93, y 94, y 95, y 96, y 97, y 98, y 99, y 100, y 101, y 102, y 103, y 104, y 105, y 106, y 107, y 108, y 109, y 110, y 111, y 112, y 113, y 114, y 115, y 116, y 117, y 118], defers := [] }) wi
  go_wp2_with fail
  refine HCall.out.mono ?_
  rintro e w3 ⟨A3, c3, rfl, hmine3, hbut3, hmap3⟩
  unfold planV
  have HM3 := Lib.hid hmine3
  have HB3 := Lib.hid hbut3
  have HMap3 := Lib.hid hmap3
  clear hmine3 hbut3 hmap3 n0 n1 n2 n3 n4 nl f0 fl s2 s4
  go_wp2
  have hE4 := Ext.alloc w3 (.cells [.slice A3 p.tests.length c3, .bool p.some].toArray 145)
  have hMw := HH2.out.mw
  have hr3 : ∀ r, some M = some r → ∃ o : Obj, wi.heap[r]? = some o ∧ o.isCells = false := fun r e => by cases e; exact hMw
  have hrow4 := own_ext (own_grown HRow.out HB3.out hr3) hE4
  have hmine4 := HM3.out.ext hE4
  have hrest4 := (HH2.out.rest.call HB3.out hMw).ext hE4
  have hmap4 := HMap3.out.ext hE4
  have z0 := (OwnB.laid w3 145 [.slice A3 p.tests.length c3, .bool p.some]).cell (j := 0) rfl
  have z1 := (OwnB.laid w3 145 [.slice A3 p.tests.length c3, .bool p.some]).cell (j := 1) rfl
  have hne : some w3.heap.size ≠ (Value.slice At tt.length ct).ownBlock := fun e => by have := (HRow.out.lt _ e.symm).2; have := HB3.out.size; omega
  have hl4 := hrest4.hi
  have hN4 := HN.out
  have hds := hd.2
  have happ : ∀ w1, GB 100 2 (wr.heap.size + 1) (.slice At tt.length ct) tt.length (tt.flatMap encD) (w3.alloc (.cells [.slice A3 p.tests.length c3, .bool p.some].toArray 145)) w1 → ∀ ty, ∃ v' w', (Builtin.append_ #[62, 62] ty #[.slice At tt.length ct, .slice A3 p.tests.length c3]).run Try.prog w1 = .ok v' w' ∧ (∃ A c, v' = .slice A (tt.length + p.tests.length) c) ∧
      w'.ownsRow (wr.heap.size + 1) 100 2 v' (tt.length + p.tests.length) ((tt ++ p.tests).flatMap encD) ∧ EffT (wr.heap.size + 1) (.slice At tt.length ct) tt 4 w1 w' := fun w1 hS ty => by
    obtain ⟨v', w', h1, h2, h3⟩ := app_plan w1 _ (wr.heap.size + 1) ty (.slice At tt.length ct) tt (hS.2 hrow4) A3 c3 p (hmine4.kept hS.1 (fun r e hk => hk.2 e.symm)) (by omega) (by omega) (by have := hS.1.size; simp only [World.size_alloc] at this hl4; have := HNx.out.lt; have := HB3.out.size; omega)
    exact ⟨v', w', h1, own_form h2, h2, by unfold EffT; rw [if_pos rfl]; exact h3⟩
  have HApp := Lib.hid happ
  have HVt := Lib.hid (show ∀ r, (Value.slice At tt.length ct).ownBlock = some r → r < w3.heap.size + 1 from fun r hr => by have := (HRow.out.lt r hr).2; have := HB3.out.size; omega)
  have HRow4 := Lib.hid hrow4
  have HRest4 := Lib.hid hrest4
  have HMap4 := Lib.hid hmap4
  have HMw := Lib.hid hMw
  obtain ⟨ii, hi', hz0, hz1, hz2⟩ := info_parts infoPlan
  have HI := Lib.hid (And.intro hi' (And.intro hz0 (And.intro hz1 hz2)))
  clear hi' hz0 hz1 hz2 happ hrow4 hmine4 hrest4 hmap4 hE4 hMw hr3 hl4 hN4 hds
  refine region_gen 9 [(4, spTests (wr.heap.size + 1) (tt.length + p.tests.length) (tt ++ p.tests)), (8, spPlan (w3.heap.size + 1))] (EffT (wr.heap.size + 1) (.slice At tt.length ct) tt) (GB 100 2 (wr.heap.size + 1) (.slice At tt.length ct) tt.length (tt.flatMap encD) (w3.alloc (.cells [.slice A3 p.tests.length c3, .bool p.some].toArray 145))) (by kernel_rfl) (by kernel_rfl) (GB.drew _) (fun i w w' h1 h2 => h1.trans (effT_gb h2)) (fun j s i hs hij xs v w w' hf he => sp23_keeps HVt.out j s i hs hij xs v w w' hf he) ?_
  simp only [List.take_succ_cons, List.take_zero, List.drop_succ_cons, List.drop_zero]
  refine wpR_val (v := ?_) ?_ ?_ (fun w1 hS hK => ?_) ?_
  rotate_left
  · rfl
  · rfl
  · clear hK hS
    go_simp
    with_reducible rfl
  simp only [Act.put, List.setIfInBounds_toArray, List.set_cons_zero, List.set_cons_succ]
  refine wpR_val (v := ?_) ?_ ?_ (fun w1 hS hK => ?_) ?_
  rotate_left
  · rfl
  · rfl
  · clear hK hS
    go_simp
    with_reducible rfl
  simp only [Act.put, List.setIfInBounds_toArray, List.set_cons_zero, List.set_cons_succ]
  refine wpR_val (v := ?_) ?_ ?_ (fun w1 hS hK => ?_) ?_
  rotate_left
  · rfl
  · rfl
  · clear hK hS
    go_simp
    with_reducible rfl
  simp only [Act.put, List.setIfInBounds_toArray, List.set_cons_zero, List.set_cons_succ]
  refine wpR_val (v := ?_) ?_ ?_ (fun w1 hS hK => ?_) ?_
  rotate_left
  · rfl
  · rfl
  · have E1 := hS
    have k0 := E1.1.cell z0 hne
    have k1 := E1.1.cell z1 hne
    clear hK hS E1
    go_simp
    with_reducible rfl
  simp only [Act.put, List.setIfInBounds_toArray, List.set_cons_zero, List.set_cons_succ]
  refine wpR_made (by rfl) (by rfl) (fun w1 hS hK => ?_) (fun v hv => ?_)
  · exact made_app rfl rfl rfl (HApp.out w1 hS _)
  obtain ⟨A5, c5, rfl⟩ := hv
  simp only [Act.put, List.setIfInBounds_toArray, List.set_cons_zero, List.set_cons_succ]
  refine wpR_val (v := ?_) ?_ ?_ (fun w1 hS hK => ?_) ?_
  rotate_left
  · rfl
  · rfl
  · clear hK hS
    go_simp
    with_reducible rfl
  simp only [Act.put, List.setIfInBounds_toArray, List.set_cons_zero, List.set_cons_succ]
  refine wpR_val (v := ?_) ?_ ?_ (fun w1 hS hK => ?_) ?_
  rotate_left
  · rfl
  · rfl
  · have E1 := hS
    have k0 := E1.1.cell z0 hne
    have k1 := E1.1.cell z1 hne
    clear hK hS E1
    go_simp
    with_reducible rfl
  simp only [Act.put, List.setIfInBounds_toArray, List.set_cons_zero, List.set_cons_succ]
  refine wpR_val (v := ?_) ?_ ?_ (fun w1 hS hK => ?_) ?_
  rotate_left
  · rfl
  · rfl
  · clear hK hS
    go_simp
    with_reducible rfl
  simp only [Act.put, List.setIfInBounds_toArray, List.set_cons_zero, List.set_cons_succ]
  refine wpR_made (by rfl) (by rfl) (fun w1 hS hK => ?_) (fun v hv => ?_)
  · exact made_val (v := .slice (some ⟨w1.heap.size, 0, none⟩) 1 1) (w' := w1.alloc (.cells [.slice A5 (tt.length + p.tests.length) c5, .bool p.some].toArray 145)) (by go_simp) ⟨_, by have := hS.1.size; simpa using this, rfl⟩ (fun b e => by cases e; exact ⟨by have := hS.1.size; simpa using this, by simp [opvals, Op.operands, Act.eval, Value.cells]; exact OwnB.laid w1 145 [.slice A5 (tt.length + p.tests.length) c5, .bool p.some]⟩) (by unfold EffT; rw [if_neg (by decide)]; exact Ext.alloc _ _)
  obtain ⟨b8, hb8, rfl⟩ := hv
  simp only [Act.put, List.setIfInBounds_toArray, List.set_cons_zero, List.set_cons_succ]
  intro w5 S5 hled
  have hrow5 := hled.2.1
  have hb85 : OwnB w5 b8 145 [.slice A5 (tt.length + p.tests.length) c5, .bool p.some] := by
    have h := (hled.1 b8 rfl).2
    simpa [opvals, Op.operands, Act.eval, Value.cells] using h
  have HB8 := Lib.hid hb85
  have hrest5 := HRest4.out.new S5.1 (fun r e => by have := (HRow.out.lt r e).1; omega)
  have hmap5 := HMap4.out.map (ok' := fun b => ok b ∧ some b ≠ (Value.slice At tt.length ct).ownBlock) (Nat.le_refl _) S5.1 (fun e => ne_map_row HMw.out HRow.out M e.symm rfl) fun A c p hm => hm.kept S5.1 (fun r e hk => hk.2 e.symm)
  have HRow5 := Lib.hid hrow5
  have HRest5 := Lib.hid hrest5
  have HMap5 := Lib.hid hmap5
  clear hrow5 hrest5 hmap5 hled S5 z0 z1 hne hb85 hb8
  go_wp2_with (at_builtin; refine wpList_append_own _ rfl (.tmp 102) (.tmp 110) 147 rfl (w.heap.size + 2) 145 ii (.agg #[.slice none 0 0, .bool false]) 2 32 Try.underlying147 HI.out.1 HI.out.2.1 HI.out.2.2.1 HI.out.2.2.2 rfl (by decide) _ _ _ rfl HRest5.out.all ⟨b8, 0, none⟩ 1 1 [.slice A5 (tt.length + p.tests.length) c5, .bool p.some] rfl rfl ?c1 ?c2 ?c3 ?c4 ?c5 ?_)
  case c1 => exact cells_own HB8.out
  case c2 => intro u hu; simp at hu; rcases hu with rfl | rfl <;> rfl
  case c3 => unfold maxLen; omega
  case c4 => omega
  case c5 => have := HRest5.out.hi; have := HRest5.out.lo; simp; omega
  intro v6 w6 hown6 hgrow6 _
  have hend := hold_end (ok := ok) (p5 := ⟨tt ++ p.tests, p.some⟩) HRest5.out HMap5.out (fun b h => h.1) (by simp) HRow5.out hown6 hgrow6
  have HEnd := Lib.hid hend
  clear hend hown6 hgrow6
  go_wp2
  exact HNext.out _ _ _ A5 c5 ⟨rfl, rfl, by repeat (first | exact trivial | refine ⟨rfl, ?_⟩)⟩ HEnd.out
end Go.Proofs.Ytebfnjabgkhngaa
end
section
set_option linter.all false
set_option linter.unusedVariables false
set_option linter.unusedSimpArgs false
set_option linter.constructorNameAsVariable false
set_option linter.unusedVariables false
namespace Go.Proofs.Ytebfnjabgkhngaa
open Go.RowKit Go.RT
set_option maxRecDepth 100000 in
set_option maxHeartbeats 2000000 in
theorem outer_exit (Bs Bm Bf W T : Nat) (va : Value) (x : Nat → Value) (wi : World) (hT : T ≤ 16) (Q : Exit → Act → World → Prop)
    (hexit : ∀ a', HasF 119 (fixO Bs Bm Bf W T T va) a' → Q (.exit 0) a' wi) :
    (loopBody (blk Try.f81 0)).wp Try.prog Q (mkF 119 (fixO Bs Bm Bf W T T va) x) wi := by
  have hlt : decide ((T : Int) < (T : Int)) = false := by simp
  have HE := Lib.hid hexit
  clear hexit
  show Code.wp Try.prog _ Q { tmps := #[x 0, .pointer (some ⟨Bs, 0, none⟩), .pointer (some ⟨Bm, 0, none⟩), .pointer (some ⟨Bf, 0, none⟩), .pointer (some ⟨W, 0, none⟩), .pointer (some ⟨W + 1, 0, none⟩), x 6, x 7, va, x 9, x 10, x 11, x 12, x 13, x 14, x 15, x 16, x 17, x 18, x 19, x 20, x 21, x 22, x 23, x 24, x 25, x 26, x 27, x 28, x 29, x 30, x 31, x 32, x 33, .int .i64 T, .int .i64 T, x 36, x 37, x 38, x 39, x 40, x 41, x 42, x 43, x 44, x 45, x 46, x 47, x 48, x 49, x 50, x 51, x 52, x 53, x 54, x 55, x 56, x 57, x 58, x 59, x 60, x 61, x 62, x 63, x 64, x 65, x 66, x 67, x 68, x 69, x 70, x 71, x 72, x 73, x 74, x 75, x 76, x 77, x 78, x 79, x 80, x 81, x 82, x 83, x 84, x 85, x 86, x 87, x 88, x 89, x 90, x 91, x 92, x 93, x 94, x 95, x 96, x 97, x 98, x 99, x 100, x 101, x 102, x 103, x 104, x 105, x 106, x 107, x 108, x 109, x 110, x 111, x 112, x 113, x 114, x 115, x 116, x 117, x 118], defers := [] } wi
  conv => arg 2; whnf
  go_wp2
  exact HE.out _ ⟨rfl, rfl, by repeat (first | exact trivial | refine ⟨rfl, ?_⟩)⟩
theorem blk_loop0 : blk Try.f81 0 = .loop (loopBody (blk Try.f81 0)) := by kernel_rfl
theorem roundS_few (most days : Int) (every : List Int) (sub : List Int → Plan) (day : Int) (u : List Int) (n : Nat) : (roundS most days every sub day u n).length ≤ n := by
  unfold roundS
  refine Nat.le_trans (List.length_filterMap_le _ _) ?_
  simp
theorem outer_any (Al : Option Addr) (cl : Nat) (Ae : Option Addr) (ce : Nat) (most days : Int) (evs : List Int) (Bs Bm Bf M : Nat) (hd : 0 ≤ days ∧ days ≤ 10) (N : Nat) (hN : evs.length = N) (hn : N ≤ 4) (hev : ∀ x ∈ evs, 0 ≤ x ∧ x ≤ 10) (ok : Nat → Prop) (w : World)
    (hx : PCtx (.slice Al evs.length cl) (.slice Ae evs.length ce) most days evs Bs Bm Bf M w) (day : Int) (hday : 0 ≤ day ∧ day ≤ 10) (T k : Nat) (hT : T ≤ 16) (a b c d : Int) (hu : Smalls [a, b, c, d]) (f : Nat) (hsub : FromOk Al cl Ae ce most days evs Bs Bm Bf M f) (hf : days - (f : Int) = day) (hf1 : (f : Int) ≤ days + 1) (hok : ∀ b, w.heap.size ≤ b → ok b) (hroom : Room (k + 16 * cost f))
    (wr : World) (hH : Hold most days evs ok M w [.int .i64 day, .int .i64 a, .int .i64 b, .int .i64 c, .int .i64 d] wr.heap.size k (.slice none 0 0) [] wr) (a0 : Act) (ha : HasF 119 (fixO Bs Bm Bf w.heap.size T 0 (.slice none 0 0)) a0) (Q : Exit → Act → World → Prop)
    (hdone : ∀ a' w' va qs, HasF 119 (fixO Bs Bm Bf w.heap.size T T va) a' → Hold most days evs ok M w [.int .i64 day, .int .i64 a, .int .i64 b, .int .i64 c, .int .i64 d] w'.heap.size (k + T * cost f) va qs w' → qs.map (fun q => q.2.2) = roundS most days evs (planS most days evs f) day [a, b, c, d] T → Q .normal a' w') :
    (Code.block 0 (blk Try.f81 0)).wp Try.prog Q a0 wr := by
  refine wp_block ?_
  rw [blk_loop0]
  have h35 : ∀ va q a', HasF 119 (fixO Bs Bm Bf w.heap.size T q va) a' → a'.tmps.getD 35 undef = .int .i64 q := fun va q a' h => by
    have h1 : a'.tmps[35]? = some (.int .i64 q) := by
      have h3 := h.2.2
      simp only [fixO, HasAll] at h3
      exact h3.2.2.2.2.2.2.2.1
    rw [Array.getD_eq_getD_getElem?, h1]; rfl
  refine wp_loop (fun a' w' => ∃ set va qs, set ≤ T ∧ HasF 119 (fixO Bs Bm Bf w.heap.size T set va) a' ∧ Hold most days evs ok M w [.int .i64 day, .int .i64 a, .int .i64 b, .int .i64 c, .int .i64 d] w'.heap.size (k + set * cost f) va qs w' ∧ qs.map (fun q => q.2.2) = roundS most days evs (planS most days evs f) day [a, b, c, d] set) (fun a w' => T - (intOf (a.tmps.getD 35 undef)).toNat) ⟨0, .slice none 0 0, [], Nat.zero_le _, ha, by simpa using hH, rfl⟩ ?_
  rintro a1 w1 ⟨set, va, qs, hset, ha1, hH1, hqs⟩
  have hm := h35 _ _ _ ha1
  have hql : qs.length ≤ set := by
    have := congrArg List.length hqs
    rw [List.length_map] at this
    rw [this]; exact roundS_few _ _ _ _ _ _ _
  obtain ⟨x, rfl⟩ := ha1.lit
  by_cases hlt : set < T
  · have hsc : k + (set + 1) * cost f = (k + set * cost f) + cost f := by rw [Nat.succ_mul]; omega
    have hs16 : (set + 1) * cost f ≤ 16 * cost f := Nat.mul_le_mul_right _ (by omega)
    have hnx : ∀ a' w' va' qs', HasF 119 (fixO Bs Bm Bf w.heap.size T (set + 1) va') a' → Hold most days evs ok M w [.int .i64 day, .int .i64 a, .int .i64 b, .int .i64 c, .int .i64 d] w'.heap.size (k + (set + 1) * cost f) va' qs' w' → qs'.map (fun q => q.2.2) = roundS most days evs (planS most days evs f) day [a, b, c, d] (set + 1) →
        Exit.then (fun a' w' => (∃ set va qs, set ≤ T ∧ HasF 119 (fixO Bs Bm Bf w.heap.size T set va) a' ∧ Hold most days evs ok M w [.int .i64 day, .int .i64 a, .int .i64 b, .int .i64 c, .int .i64 d] w'.heap.size (k + set * cost f) va qs w' ∧ qs.map (fun q => q.2.2) = roundS most days evs (planS most days evs f) day [a, b, c, d] set) ∧
          T - (intOf (a'.tmps.getD 35 undef)).toNat < T - (intOf ((mkF 119 (fixO Bs Bm Bf w.heap.size T set va) x).tmps.getD 35 undef)).toNat) (Exit.inBlock 0 Q) .normal a' w' := fun a' w' va' qs' h1 h2 h3 => by
      refine ⟨⟨set + 1, va', qs', by omega, h1, h2, h3⟩, ?_⟩
      rw [h35 _ _ _ h1, hm]
      simp [intOf]
      omega
    have hrs := roundS_succ most days evs (planS most days evs f) day [a, b, c, d] set
    have hst : stepS most days evs (planS most days evs f) day [a, b, c, d] set = (if (innS days evs day set [a, b, c, d] N).2.2 = true ∧ ((innS days evs day set [a, b, c, d] N).2.1.length : Int) ≤ most then some ⟨(innS days evs day set [a, b, c, d] N).2.1 ++ (planS most days evs f (innS days evs day set [a, b, c, d] N).1).tests, (planS most days evs f (innS days evs day set [a, b, c, d] N).1).some⟩ else none) := by
      unfold stepS; rw [hN]
    cases hbb : (innS days evs day set [a, b, c, d] N).2.2 with
    | false =>
      rw [hst, hbb, if_neg (by simp)] at hrs
      exact outer_skip_f Al cl Ae ce most days evs Bs Bm Bf M hd N hN hn hev ok w hx day hday set T (k + set * cost f) hlt hT va qs a b c d hu w1 hH1 hbb x _ (fun a' w' h1 h2 => hnx a' w' va qs h1 (h2.weak h2.hi (Nat.le_refl _) (by omega)) (by rw [hrs, hqs]; simp))
    | true =>
      by_cases hmost : ((innS days evs day set [a, b, c, d] N).2.1.length : Int) ≤ most
      · rw [hst, hbb, if_pos ⟨rfl, hmost⟩] at hrs
        exact outer_call Al cl Ae ce most days evs Bs Bm Bf M hd N hN hn hev ok w hx day hday set T (k + set * cost f) hlt hT va qs a b c d hu w1 hH1 hbb hmost f hsub hf hf1 hok (hroom.mono (by omega)) (by omega) x _ (fun a' w' va' A' c' h1 h2 => hnx a' w' va' _ h1 (by rw [hsc]; exact h2) (by rw [hrs, List.map_append, hqs]; simp))
      · rw [hst, hbb, if_neg (fun h => hmost h.2)] at hrs
        exact outer_skip_t Al cl Ae ce most days evs Bs Bm Bf M hd N hN hn hev ok w hx day hday set T (k + set * cost f) hlt hT va qs a b c d hu w1 hH1 hbb hmost x _ (fun a' w' h1 h2 => hnx a' w' va qs h1 (h2.weak h2.hi (Nat.le_refl _) (by omega)) (by rw [hrs, hqs]; simp))
  · obtain rfl : set = T := by omega
    exact outer_exit Bs Bm Bf w.heap.size set va x w1 hT _ (fun a' h => hdone a' w1 va qs h hH1 hqs)
end Go.Proofs.Ytebfnjabgkhngaa
end
section
set_option linter.all false
set_option linter.unusedVariables false
set_option linter.unusedSimpArgs false
set_option linter.constructorNameAsVariable false
set_option linter.unusedVariables false
namespace Go.Proofs.Ytebfnjabgkhngaa
open Go.RowKit Go.RT
theorem rd_plans {W L : Nat} {w : World} {v : Value} {qs : List Raw} {B : Nat} (h : w.ownsRow B 145 2 v qs.length (qs.flatMap encQ)) (hl : qs.length ≤ 16) (hm : ∀ q ∈ qs, Mine (fun g => W ≤ g ∧ g < L) w q.1 q.2.1 q.2.2) (ht : ∀ q ∈ qs, q.2.2.tests.length ≤ 1000) :
    Rd 2 (PlanC fun A c p => Mine (fun g => W ≤ g ∧ g < L) w A c p) w v (qs.map fun q => q.2.2) := by
  obtain ⟨A, c, h1, h2, h3⟩ := rd_owned h (fun _ _ => rfl) rfl (by omega)
  refine ⟨A, c, by rw [h1, List.length_map], by simpa using h2, fun i x hx => ?_⟩
  rw [List.getElem?_map] at hx
  obtain ⟨q, hq, rfl⟩ := Option.map_eq_some_iff.1 hx
  obtain ⟨b, o, cs, h4, h5, h6, h7⟩ := h3 i q hq
  have hmem := List.mem_of_getElem? hq
  exact ⟨b, o, cs, h4, ⟨q.1, q.2.1, h5, (hm q hmem).rd (ht q hmem), hm q hmem⟩, h6, h7⟩
set_option maxRecDepth 100000 in
set_option maxHeartbeats 4000000 in
theorem plan_new (Al : Option Addr) (cl : Nat) (Ae : Option Addr) (ce : Nat) (most days : Int) (evs : List Int) (Bs Bm Bf M f : Nat) (hd : 0 ≤ days ∧ days ≤ 10) (hn : evs.length ≤ 4) (hev : ∀ x ∈ evs, 0 ≤ x ∧ x ≤ 10) (hsub : FromOk Al cl Ae ce most days evs Bs Bm Bf M f)
    (ok : Nat → Prop) (u : List Int) (k : Nat) (w : World)
    (hx : PCtx (.slice Al evs.length cl) (.slice Ae evs.length ce) most days evs Bs Bm Bf M w) (hok : ∀ b, w.heap.size ≤ b → ok b) (D : DataW Value) (hD : w.ownsMap Try.prog 143 elemR M k D) (hC : CacheOk most days evs ok w D) (hu : Smalls u) (hf : ((f + 1 : Nat) : Int) ≤ days + 1)
    (hroom : Room (k + cost (f + 1))) (kl : Lit) (hkl : keyOf Try.prog 143 (stV (days + 1 - (f + 1 : Nat)) u) = some kl) (hh : Go.Maps.has D kl = false) :
    Calls Try.prog 81 #[stV (days + 1 - (f + 1 : Nat)) u, .pointer (some ⟨Bs, 0, none⟩), .pointer (some ⟨Bm, 0, none⟩), .pointer (some ⟨Bf, 0, none⟩)] w (FromPost most days evs ok M (f + 1) k u w) := by
  have hat := Go.Maps.atKey_of_not_has hh (.held ZP)
  have hm : MapOk most days evs ok M w k := ⟨D, hD, hC⟩
  obtain ⟨N, hN⟩ : ∃ N, evs.length = N := ⟨_, rfl⟩
  have HX := Lib.hid hx
  have HM := Lib.hid hm
  have HOk := Lib.hid hok
  have HU := Lib.hid hu
  have HRoom := Lib.hid hroom
  have HSub := Lib.hid hsub
  have HEv := Lib.hid hev
  have HHas := Lib.hid hh
  have HAt := Lib.hid hat
  have HKl0 := Lib.hid hkl
  have s0 := hx.seals.cell (j := 0) rfl
  have s3 := hx.seals.cell (j := 3) rfl
  have l3 := hx.seals.lt
  have l3a : Bs < w.heap.size + 1 := by omega
  have l3b : Bs < w.heap.size + 1 + 1 := by omega
  have m0 := hx.met.cell (j := 0) rfl
  have ml := hx.met.lt
  have hgt : decide (days < days + 1 - ((f + 1 : Nat) : Int)) = false := by simp; omega
  have hday : 0 ≤ days + 1 - ((f + 1 : Nat) : Int) ∧ days + 1 - ((f + 1 : Nat) : Int) ≤ 10 := by omega
  have hf1 : (f : Int) ≤ days + 1 := by omega
  have hf11 : f + 1 ≤ 11 := by omega
  have hdays : days - (f : Int) = days + 1 - ((f + 1 : Nat) : Int) := by omega
  have HDays := Lib.hid hdays
  obtain ⟨a, b, c, d, rfl⟩ := smalls_four hu
  show Calls _ _ #[.agg #[.int .i64 (days + 1 - ((f + 1 : Nat) : Int)), .int .i64 a, .int .i64 b, .int .i64 c, .int .i64 d], _, _, _] w _
  have HKl := Lib.hid (show keyOf Try.prog 143 (.agg #[.int .i64 (days + 1 - ((f + 1 : Nat) : Int)), .int .i64 a, .int .i64 b, .int .i64 c, .int .i64 d]) = some kl from hkl)
  have hE0 : Ext w ((w.alloc (.cells [.int .i64 (days + 1 - ((f + 1 : Nat) : Int)), .int .i64 a, .int .i64 b, .int .i64 c, .int .i64 d].toArray 143)).alloc (.cells [.slice none 0 0, .bool false].toArray 145)) := (Ext.alloc _ _).trans (Ext.alloc _ _)
  have HD := Lib.hid (hD.kept (grown_ext hE0) (by simp))
  rw [hN] at s0 hn
  have HN := Lib.hid hN
  obtain ⟨T, hT⟩ : ∃ T : Nat, 2 ^ N = T := ⟨_, rfl⟩
  have hT16 : T ≤ 16 := by rw [← hT]; exact Nat.pow_le_pow_right (by omega) hn
  have hpow : wrap64 ((2 : Int) ^ N) = (T : Int) := by
    have e : ((2 : Int) ^ N) = (T : Int) := by rw [← hT]; simp
    rw [e]; unfold wrap64; omega
  have HPow := Lib.hid hpow
  have HT := Lib.hid hT
  clear hT hpow
  clear hx hu hC hh hat hkl hE0 hok hroom hsub hev hD hdays hN
  have hdef : days + 1 - ((f + 1 : Nat) : Int) = days + 1 - ((f + 1 : Nat) : Int) := rfl
  generalize hdd : days + 1 - ((f + 1 : Nat) : Int) = day at *
  have HDd := Lib.hid hdd
  clear hdd hdef
  obtain ⟨Q, hQ⟩ : ∃ Q, FromPost most days evs ok M (f + 1) k [a, b, c, d] w = Q := ⟨_, rfl⟩
  rw [hQ]
  have HQ := Lib.hid hQ
  clear hQ
  unfold ZP at HAt
  have hstart : Hold most days evs ok M w [.int .i64 day, .int .i64 a, .int .i64 b, .int .i64 c, .int .i64 d] (w.heap.size + 1 + 1 + 1) k (.slice none 0 0) [] (((w.alloc (.cells [.int .i64 day, .int .i64 a, .int .i64 b, .int .i64 c, .int .i64 d].toArray 143)).alloc (.cells [.slice none 0 0, .bool false].toArray 145)).alloc (.cells [.slice none 0 0, .bool false].toArray 145)) := by
    have e1 := Ext.alloc w (.cells [.int .i64 day, .int .i64 a, .int .i64 b, .int .i64 c, .int .i64 d].toArray 143)
    have e2 := Ext.alloc (w.alloc (.cells [.int .i64 day, .int .i64 a, .int .i64 b, .int .i64 c, .int .i64 d].toArray 143)) (.cells [.slice none 0 0, .bool false].toArray 145)
    have e3 := Ext.alloc ((w.alloc (.cells [.int .i64 day, .int .i64 a, .int .i64 b, .int .i64 c, .int .i64 d].toArray 143)).alloc (.cells [.slice none 0 0, .bool false].toArray 145)) (.cells [.slice none 0 0, .bool false].toArray 145)
    have o5 := OwnB.laid (w.alloc (.cells [.int .i64 day, .int .i64 a, .int .i64 b, .int .i64 c, .int .i64 d].toArray 143)) 145 [.slice none 0 0, .bool false]
    rw [World.size_alloc] at o5
    exact ⟨grown_of_ext ((e1.trans e2).trans e3), (hm.ext ((e1.trans e2).trans e3)).weak (Nat.le_refl _) (fun b hb h => ⟨h, by simpa using hb⟩), ((OwnB.laid w _ _).ext e2).ext e3, o5.ext e3, World.ownsRow_nil _ _ _ _, fun g hg => by simp [Value.ownBlock] at hg, fun q hq => by simp at hq, by omega, by simp⟩
  have HStart := Lib.hid hstart
  clear hm hstart
  go_enter Try.func81, Try.ntmps81
  go_upto_block 0 with (at_lookup; refine lookup_held _ rfl (.tmp 24) (.tmp 25) rfl M k D rfl HD.out _ kl rfl HKl.out _ false HAt.out HHas.out ?_)
  rw [HPow.out]
  have hr16 : k + 16 * cost f ≤ k + cost (f + 1) := by
    have : cost (f + 1) = 16 * cost f + 1 := rfl
    omega
  refine outer_any Al cl Ae ce most days evs Bs Bm Bf M hd N HN.out hn HEv.out ok w HX.out day hday T k hT16 a b c d HU.out f HSub.out HDays.out hf1 HOk.out (HRoom.out.mono hr16) _ (by simpa using HStart.out) _ ⟨rfl, rfl, by repeat (first | exact trivial | refine ⟨rfl, ?_⟩)⟩ _ ?_
  rintro a' wi va qs ha' hH hqs
  obtain ⟨y, rfl⟩ := ha'.lit
  have hqt : ∀ q ∈ qs, q.2.2.tests.length ≤ 1000 := fun q hq => by
    have h1 : q.2.2 ∈ roundS most days evs (planS most days evs f) day [a, b, c, d] T := by rw [← hqs]; exact List.mem_map.2 ⟨q, hq, rfl⟩
    unfold roundS at h1
    obtain ⟨set, _, hs⟩ := List.mem_filterMap.1 h1
    unfold stepS at hs
    dsimp only at hs
    split at hs
    · have e := Option.some.inj hs
      rw [← e]
      have h2 := innS_few days evs day set [a, b, c, d] evs.length
      have h3 := planS_few most days evs (by have := HN.out; omega) f (innS days evs day set [a, b, c, d] evs.length).1
      have := HN.out
      simp only [List.length_append]
      omega
    · cases hs
  have hql : qs.length ≤ 16 := by
    have := congrArg List.length hqs
    rw [List.length_map] at this
    rw [this]
    exact Nat.le_trans (roundS_few _ _ _ _ _ _ _) hT16
  have hbest := best_any (fun A c p => Mine (fun g => w.heap.size ≤ g ∧ g < wi.heap.size) wi A c p) ⟨World.ownsRow_nil _ _ _ _, fun g hg => by simp [Value.ownBlock] at hg⟩ va _ wi (rd_plans hH.all hql hH.mine hqt)
  have hplan : bestP (qs.map fun q => q.2.2) = planS most days evs (f + 1) [a, b, c, d] := by
    rw [hqs]
    show bestP (roundS _ _ _ _ _ _ T) = bestP (roundS _ _ _ _ _ _ (2 ^ evs.length))
    rw [HN.out, HT.out, HDays.out]
  rw [hplan] at hbest
  have hkl2 : keyOf Try.prog 143 (stV (days + 1 - (f + 1 : Nat)) [a, b, c, d]) = some kl := by rw [HDd.out]; exact HKl0.out
  have HKl2 := Lib.hid hkl2
  have hpt := planS_few most days evs (by have := HN.out; omega) (f + 1) [a, b, c, d]
  generalize hp : planS most days evs (f + 1) [a, b, c, d] = p at *
  have HP := Lib.hid hp
  clear hp
  have HBest := Lib.hid hbest
  have HH := Lib.hid hH
  have b0 := hH.own4.cell (j := 0) rfl
  have b1 := hH.own4.cell (j := 1) rfl
  have b2 := hH.own4.cell (j := 2) rfl
  have b3 := hH.own4.cell (j := 3) rfl
  have b4 := hH.own4.cell (j := 4) rfl
  have HPX := Lib.hid (hH.pctx HX.out)
  clear hbest hH hqs ha' hqt hkl2 b0 b1 b2 b3 b4
  show Exit.then _ _ .normal ({ tmps := #[y 0, .pointer (some ⟨Bs, 0, none⟩), .pointer (some ⟨Bm, 0, none⟩), .pointer (some ⟨Bf, 0, none⟩), .pointer (some ⟨w.heap.size, 0, none⟩), .pointer (some ⟨w.heap.size + 1, 0, none⟩), y 6, y 7, va, y 9, y 10, y 11, y 12, y 13, y 14, y 15, y 16, y 17, y 18, y 19, y 20, y 21, y 22, y 23, y 24, y 25, y 26, y 27, y 28, y 29, y 30, y 31, y 32, y 33, .int .i64 T, .int .i64 T, y 36, y 37, y 38, y 39, y 40, y 41, y 42, y 43, y 44, y 45, y 46, y 47, y 48, y 49, y 50, y 51, y 52, y 53, y 54, y 55, y 56, y 57, y 58, y 59, y 60, y 61, y 62, y 63, y 64, y 65, y 66, y 67, y 68, y 69, y 70, y 71, y 72, y 73, y 74, y 75, y 76, y 77, y 78, y 79, y 80, y 81, y 82, y 83, y 84, y 85, y 86, y 87, y 88, y 89, y 90, y 91, y 92, y 93, y 94, y 95, y 96, y 97, y 98, y 99, y 100, y 101, y 102, y 103, y 104, y 105, y 106, y 107, y 108, y 109, y 110, y 111, y 112, y 113, y 114, y 115, y 116, y 117, y 118], defers := [] }) wi
  go_wp2_with fail
  refine HBest.out.mono ?_
  rintro e w3 ⟨A, cc, rfl, hmine, hE3⟩
  have hE4 := hE3.trans (Ext.alloc w3 (.cells [.slice A p.tests.length cc, .bool p.some].toArray 145))
  have hm4 := HH.out.ext hE4
  obtain ⟨D4, hD4, hC4⟩ := hm4.map
  have px4 := HPX.out.ext' hE4
  have mm := px4.met.cell (j := 0) rfl
  have b0 := hm4.own4.cell (j := 0) rfl
  have b1 := hm4.own4.cell (j := 1) rfl
  have b2 := hm4.own4.cell (j := 2) rfl
  have b3 := hm4.own4.cell (j := 3) rfl
  have b4 := hm4.own4.cell (j := 4) rfl
  have HM4 := Lib.hid hm4
  have HD4 := Lib.hid hD4
  have HC4 := Lib.hid hC4
  have HMine := Lib.hid (hmine.ext hE4)
  have HE4 := Lib.hid hE4
  have hkk : k + T * cost f ≤ k + 16 * cost f := by have := Nat.mul_le_mul_right (cost f) hT16; omega
  have HLt := Lib.hid ((HRoom.out.mono (Nat.le_trans hkk hr16)).lt)
  clear hm4 hD4 hC4 hmine hE3 hE4 px4
  go_wp2_with (at_mapUpdate; refine wpList_mapUpdate_own _ rfl (.tmp 115) (.tmp 116) (.tmp 117) 139 rfl 143 145 keyedM Try.underlying139 elemR M _ D4 rfl HD4.out HLt.out _ _ kl rfl rfl HKl.out (.held (planV A cc p)) [] rfl ?_)
  intro w5 hD5 hg5
  have hMw := HM4.out.mw
  have hsm : Smalls [a, b, c, d] := HU.out
  have hmine5 : Mine ok (w3.alloc (.cells [.slice A p.tests.length cc, .bool p.some].toArray 145)) A cc p := HMine.out.mono (fun b _ hb => HOk.out b hb.1)
  have hput := MapOk.put (days := days) (evs := evs) (most := most) (ok := ok) (f := f + 1) HD4.out (fun f' u' kl' v h1 h2 h3 h4 h5 => by
    obtain ⟨A', c', h6, h7⟩ := HC4.out f' u' kl' v h1 h2 h3 h4 h5
    exact ⟨A', c', h6, h7.mono fun b _ hb => hb.1⟩) hf11 hsm hd HKl2.out (by rw [HP.out]; exact hmine5) (by rw [HP.out]; exact hD5) hg5
  have q5 := HM4.out.own5.but (ne_map hMw HM4.out.own5).symm hg5
  have q16 := (OwnB.laid w3 145 [.slice A p.tests.length cc, .bool p.some]).but (ne_map hMw (OwnB.laid w3 145 [.slice A p.tests.length cc, .bool p.some])).symm hg5
  have r0 := q16.cell (j := 0) rfl
  have r1 := q16.cell (j := 1) rfl
  have v0 := q5.cell (j := 0) rfl
  have v1 := q5.cell (j := 1) rfl
  have g0 := q5.frozen 0
  have g1 := q5.frozen 1
  have hb5 := but_trans HM4.out.but hg5
  have hm5 := hmine5.grown hg5 (fun r e => by cases e; exact hMw)
  have HPut := Lib.hid hput
  have HQ5 := Lib.hid q5
  have HB5 := Lib.hid hb5
  have HM5 := Lib.hid hm5
  clear hput q5 q16 hb5 hm5 hmine5 hD5 hg5 hMw hsm mm b0 b1 b2 b3 b4
  go_wp2
  have z := (HQ5.out.set 0 (.slice A p.tests.length cc)).set 1 (.bool p.some)
  have z0 := z.cell (j := 0) rfl
  have z1 := z.cell (j := 1) rfl
  refine bodyPost_ret (v := planV A cc p) (by simp [results, Try.f81, go_sem, z0, z1, planV]) rfl ?_
  rw [← HQ.out]
  refine ⟨A, cc, by rw [HP.out], by rw [HP.out]; exact (HM5.out.box HQ5.out (by decide) (grownBy_cell _ _ _ _)).box (HQ5.out.set 0 _) (by decide) (grownBy_cell _ _ _ _), but_new (but_new HB5.out (grownBy_cell _ _ _ _) (fun r e => by cases e; omega)) (grownBy_cell _ _ _ _) (fun r e => by cases e; omega), ?_⟩
  have hc : cost (f + 1) = 16 * cost f + 1 := rfl
  exact ((HPut.out.box HQ5.out (by decide) 0 _).box (HQ5.out.set 0 _) (by decide) 1 _).weak (by omega) (fun _ _ h => h)
end Go.Proofs.Ytebfnjabgkhngaa
end
section
set_option linter.all false
set_option linter.unusedVariables false
set_option linter.unusedSimpArgs false
set_option linter.constructorNameAsVariable false
set_option linter.unusedVariables false
namespace Go.Proofs.Ytebfnjabgkhngaa
open Go.RowKit Go.RT
theorem from_ok (Al : Option Addr) (cl : Nat) (Ae : Option Addr) (ce : Nat) (most days : Int) (evs : List Int) (Bs Bm Bf M : Nat) (hd : 0 ≤ days ∧ days ≤ 10) (hn : evs.length ≤ 4) (hev : ∀ x ∈ evs, 0 ≤ x ∧ x ≤ 10) : ∀ f, FromOk Al cl Ae ce most days evs Bs Bm Bf M f
  | 0 => plan_last Al cl Ae ce most days evs Bs Bm Bf M hd
  | f + 1 => by
    have ih := from_ok Al cl Ae ce most days evs Bs Bm Bf M hd hn hev f
    intro ok u k w hx hm hok hu hroom hf
    obtain ⟨D, hD, hC⟩ := hm
    obtain ⟨kl, hkl⟩ := key_smalls (days + 1 - ((f + 1 : Nat) : Int)) u (by unfold Fits; omega) hu
    cases hh : Go.Maps.has D kl with
    | false => exact plan_new Al cl Ae ce most days evs Bs Bm Bf M f hd hn hev ih ok u k w hx hok D hD hC hu hf hroom kl hkl hh
    | true =>
      obtain ⟨v, ps, _, hv⟩ := hD.look_ok keyedM Try.underlying139 (zeroPlan w) (zd := .held ZP) (zp := []) rfl hkl
      have hat : D.atKey kl (.held ZP) = .held v := by
        unfold elemR at hv
        simp only [Option.some.injEq, Prod.mk.injEq] at hv
        exact hv.1.symm
      exact plan_met Al cl Ae ce most days evs Bs Bm Bf M f hd ok u k w hx D hD hC hu hf kl hkl hh v hat
theorem ixBad_ok (low : Int) : ∀ (l : List Int) (k : Nat), ixBad low l k < 0 → ∀ x ∈ l, low ≤ x ∧ x ≤ 10
  | [], _, _, x, hx => by simp at hx
  | y :: l, k, h, x, hx => by
    unfold ixBad at h
    split at h
    · rename_i hy
      rcases List.mem_cons.1 hx with rfl | hx
      · first | exact hy | omega | exact ⟨hy.1, hy.2⟩
      · exact ixBad_ok low l (k + 1) h x hx
    · first | omega | (rcases List.mem_cons.1 hx with rfl | hx <;> first | omega | exact ixBad_ok low l (k + 1) h x hx)
structure SealsOk (s : Seals) : Prop where
  n1 : 1 ≤ s.left.length
  n4 : s.left.length ≤ 4
  ev : s.every.length = s.left.length
  days : 0 ≤ s.days ∧ s.days ≤ 10
  most : 0 ≤ s.most ∧ s.most ≤ 4
  left : ∀ x ∈ s.left, -1 ≤ x ∧ x ≤ 10
  every : ∀ x ∈ s.every, 0 ≤ x ∧ x ≤ 10
theorem seals_ok {s : Seals} (h : sealsErr s = 0) : SealsOk s := by
  unfold sealsErr at h
  by_cases hm : manyErr s.left.length 4 = 0
  · rw [if_pos hm] at h
    by_cases he : s.every.length = s.left.length
    · rw [if_pos he] at h
      by_cases hd : 0 ≤ s.days ∧ s.days ≤ 10
      · rw [if_pos hd] at h
        by_cases hmo : 0 ≤ s.most ∧ s.most ≤ 4
        · rw [if_pos hmo] at h
          cases hl : badL (-1) s.left with
          | true => rw [hl, if_pos rfl] at h; omega
          | false =>
            cases hev : badL 0 s.every with
            | true => rw [hl, hev, if_neg (by simp), if_pos rfl] at h; omega
            | false =>
              have h1 : 1 ≤ s.left.length ∧ s.left.length ≤ 4 := by
                unfold manyErr at hm
                split at hm
                · omega
                · split at hm <;> omega
              exact ⟨h1.1, h1.2, he, hd, hmo, ixBad_ok _ _ 0 (by unfold badL at hl; simpa using hl), ixBad_ok _ _ 0 (by unfold badL at hev; simpa using hev)⟩
        · rw [if_neg hmo] at h; omega
      · rw [if_neg hd] at h; omega
    · rw [if_neg he] at h; omega
  · rw [if_neg hm] at h; exact absurd h hm
end Go.Proofs.Ytebfnjabgkhngaa
end
section
set_option linter.all false
set_option linter.unusedVariables false
set_option linter.unusedSimpArgs false
set_option linter.constructorNameAsVariable false
set_option linter.unusedVariables false
namespace Go.Proofs.Ytebfnjabgkhngaa
open Go.RowKit Go.RT
def initS (days : Int) (left : List Int) : Nat → List Int
  | 0 => [0, 0, 0, 0]
  | k + 1 => (initS days left k).set k (min (left.getD k 0) days)
theorem initS_len (days : Int) (left : List Int) : ∀ k, (initS days left k).length = 4
  | 0 => rfl
  | k + 1 => by unfold initS; simp [initS_len days left k]
theorem initS_small (days : Int) (left : List Int) (hd : 0 ≤ days ∧ days ≤ 10) (hl : ∀ x ∈ left, -1 ≤ x ∧ x ≤ 10) : ∀ k, Smalls (initS days left k)
  | 0 => ⟨rfl, fun x hx => by simp [initS] at hx; subst hx; unfold Fits; omega⟩
  | k + 1 => by
    have ih := initS_small days left hd hl k
    refine ⟨initS_len days left (k + 1), fun x hx => ?_⟩
    unfold initS at hx
    rcases List.mem_or_eq_of_mem_set hx with hx | rfl
    · exact ih.2 x hx
    · have h1 : -1 ≤ left.getD k 0 ∧ left.getD k 0 ≤ 10 := by
        rw [List.getD_eq_getElem?_getD]
        cases h : left[k]? with
        | none => simp
        | some y => exact hl y (List.mem_of_getElem? h)
      unfold Fits
      omega
def planOf (s : Seals) : Plan := planS s.most s.days s.every (s.days + 1).toNat (initS s.days s.left s.left.length)
def PlanPost (s : Seals) (w : World) (e : Ending) (w' : World) : Prop :=
  (if sealsErr s = 0 then
    (if (planOf s).some = true then ∃ v, e = .returned (.tuple #[v, .int .i64 0]) ∧ w'.ownsRow w.heap.size 100 2 v (planOf s).tests.length ((planOf s).tests.flatMap encD)
      else e = .returned (.tuple #[.slice none 0 0, .int .i64 3]))
    else e = .returned (.tuple #[.slice none 0 0, .int .i64 (sealsErr s)])) ∧ Ext w w'
theorem ownsRow_from {w : World} {B n size : Nat} {T : TypeId} {v : Value} {xs : List Value} (h : w.ownsRow 0 T size v n xs) (hb : ∀ g, v.ownBlock = some g → B ≤ g) : w.ownsRow B T size v n xs := by
  refine ⟨h.1, h.2.imp id ?_⟩
  rintro ⟨g, cap, cur, h1, h2, h3⟩
  exact ⟨g, cap, cur, h1, hb g (by rw [h1]; rfl), h3⟩
theorem but_ext_of {M : Nat} {w w1 w2 : World} (h : Ext w w1) (hb : But M w1 w2) (hM : w.heap.size ≤ M) : Ext w w2 := Below.grown h hb h.size (fun k e => by cases e; exact hM)
theorem mapOk_made (most days : Int) (evs : List Int) (ok : Nat → Prop) (w : World) : MapOk most days evs ok w.heap.size (w.alloc (.map #[] 0)) 0 :=
  ⟨.map [], World.ownsMap_made w _ _ _, fun f u kl v _ _ _ hh _ => by simp [Go.Maps.has] at hh⟩
attribute [local go_sem] max_i64 min_i64
set_option maxRecDepth 100000 in
set_option maxHeartbeats 2000000 in
theorem Plan_any (v : Value) (s : Seals) (w : World) (h : SealsRd w v s) : Calls Try.prog 30 #[v] w (PlanPost s w) := by
  have hbr := h
  obtain ⟨l, e, rfl, hl, he⟩ := h
  obtain ⟨left, evs, most, days⟩ := s
  dsimp only at hl he
  obtain ⟨Al, cl, rfl, _⟩ := hl.form
  obtain ⟨Ae, ce, rfl, _⟩ := he.form
  have HB := Lib.hid (OwnB.laid w 52 [.slice Al left.length cl, .slice Ae evs.length ce, .int .i64 most, .int .i64 days])
  have HBr := Lib.hid hbr
  have HL := Lib.hid hl
  have HE := Lib.hid he
  clear hbr hl he
  obtain ⟨Q, hQ⟩ : ∃ Q, PlanPost ⟨left, evs, most, days⟩ w = Q := ⟨_, rfl⟩
  rw [hQ]
  have HQ := Lib.hid hQ
  clear hQ
  have hmm := @run_makeMap Try.prog
  go_enter Try.func30, Try.ntmps30
  go_wp2_with fail
  refine (checkSeals_any _ ⟨left, evs, most, days⟩ _ (HBr.out.ext (Ext.alloc _ _))).mono ?_
  rintro e w1 ⟨rfl, hE⟩
  have hb1 := HB.out.ext hE
  have hE1 := (Ext.alloc w (.cells [.slice Al left.length cl, .slice Ae evs.length ce, .int .i64 most, .int .i64 days].toArray 52)).trans hE
  have HB1 := Lib.hid hb1
  have HE1 := Lib.hid hE1
  have d0 := hb1.cell (j := 0) rfl
  have d3 := hb1.cell (j := 3) rfl
  have dl := hb1.lt
  have dl1 : w.heap.size < w1.heap.size + 1 := by omega
  have dl2 : w.heap.size < w1.heap.size + 1 + 1 := by omega
  have dl3 : w.heap.size < w1.heap.size + 1 + 1 + 1 := by omega
  generalize hse : sealsErr ⟨left, evs, most, days⟩ = se at *
  have HSe := Lib.hid hse
  clear hse hE hb1 hE1 HB
  by_cases h0 : se = 0
  · subst h0
    have hok := seals_ok HSe.out
    have hn4 : left.length ≤ 4 := hok.n4
    have hev : evs.length = left.length := hok.ev
    have HOk := Lib.hid hok
    have HEv := Lib.hid hev
    clear hok hev
    go_wp2
    have hx1 := Ext.alloc w1 (.map #[] 0)
    have hx2 := Ext.alloc (w1.alloc (.map #[] 0)) (.cells [.map (some w1.heap.size)].toArray 139)
    have hx3 := Ext.alloc ((w1.alloc (.map #[] 0)).alloc (.cells [.map (some w1.heap.size)].toArray 139)) (.cells [.func (.func 81) #[] #[.pointer (some ⟨w.heap.size, 0, none⟩), .pointer (some ⟨w1.heap.size + 1, 0, none⟩), .pointer (some ⟨w1.heap.size + 1 + 1, 0, none⟩)]].toArray 140)
    have hmet := (OwnB.laid (w1.alloc (.map #[] 0)) 139 [.map (some w1.heap.size)]).ext hx3
    have hself := OwnB.laid ((w1.alloc (.map #[] 0)).alloc (.cells [.map (some w1.heap.size)].toArray 139)) 140 [.func (.func 81) #[] #[.pointer (some ⟨w.heap.size, 0, none⟩), .pointer (some ⟨w1.heap.size + 1, 0, none⟩), .pointer (some ⟨w1.heap.size + 1 + 1, 0, none⟩)]]
    have hmap := ((mapOk_made most days evs (fun b => w.heap.size ≤ b) w1).ext hx2).ext hx3
    have hb7 := OwnB.laid (((w1.alloc (.map #[] 0)).alloc (.cells [.map (some w1.heap.size)].toArray 139)).alloc (.cells [.func (.func 81) #[] #[.pointer (some ⟨w.heap.size, 0, none⟩), .pointer (some ⟨w1.heap.size + 1, 0, none⟩), .pointer (some ⟨w1.heap.size + 1 + 1, 0, none⟩)]].toArray 140)) 143 [.int .i64 0, .int .i64 0, .int .i64 0, .int .i64 0, .int .i64 0]
    have hx4 := Ext.alloc (((w1.alloc (.map #[] 0)).alloc (.cells [.map (some w1.heap.size)].toArray 139)).alloc (.cells [.func (.func 81) #[] #[.pointer (some ⟨w.heap.size, 0, none⟩), .pointer (some ⟨w1.heap.size + 1, 0, none⟩), .pointer (some ⟨w1.heap.size + 1 + 1, 0, none⟩)]].toArray 140)) (.cells [.int .i64 0, .int .i64 0, .int .i64 0, .int .i64 0, .int .i64 0].toArray 143)
    have hx13 := (hx1.trans hx2).trans hx3
    have hs2 := HB1.out.ext hx13
    rw [World.size_alloc] at hmet hself hb7
    rw [World.size_alloc] at hself hb7
    rw [World.size_alloc] at hb7
    have hpx : PCtx (.slice Al evs.length cl) (.slice Ae evs.length ce) most days evs w.heap.size (w1.heap.size + 1) (w1.heap.size + 1 + 1) w1.heap.size _ :=
      ⟨by have h := hs2; rw [← HEv.out] at h; exact h, hmet, hself, HE.out.ext (Flat.keeps _) (HE1.out.trans hx13), ⟨by omega, by omega, by omega⟩, hmap.notcells⟩
    generalize hw2 : ((w1.alloc (.map #[] 0)).alloc (.cells [.map (some w1.heap.size)].toArray 139)).alloc (.cells [.func (.func 81) #[] #[.pointer (some ⟨w.heap.size, 0, none⟩), .pointer (some ⟨w1.heap.size + 1, 0, none⟩), .pointer (some ⟨w1.heap.size + 1 + 1, 0, none⟩)]].toArray 140) = w2 at *
    have hw2s : w2.heap.size = w1.heap.size + 1 + 1 + 1 := by rw [← hw2]; simp
    have HW2 := Lib.hid hw2s
    have HPx := Lib.hid hpx
    have HMp := Lib.hid hmap
    have HE2 := Lib.hid (HE1.out.trans hx13)
    have HB7 := Lib.hid hb7
    have HX4 := Lib.hid hx4
    clear hw2 hw2s hpx hmap hx1 hx2 hx3 hx4 hx13 hs2 hmet hself hb7 d0 d3 dl dl1 dl2 dl3
    go_loopw [21] (fun q wr => ∃ k : Nat, q = .int .i64 k ∧ k ≤ left.length ∧ Ext w2 wr ∧ OwnB wr (w1.heap.size + 1 + 1 + 1) 143 (stCells 0 (initS days left k))) (fun q _ => left.length - (intOf q).toNat)
    case atStart => exact ⟨0, rfl, Nat.zero_le _, HX4.out, HB7.out⟩
    case round =>
      clear HX4 HB7
      obtain ⟨k, rfl, hk, hE, hO⟩ := hrel
      have px := HPx.out.ext' hE
      have s3 := px.seals.cell (j := 3) rfl
      have hl4 := initS_len days left k
      have hw2 := HW2.out
      by_cases hlt : k < left.length
      · obtain ⟨b, o, rfl, hc⟩ := (HL.out.ext (Flat.keeps _) (HE2.out.trans hE)).at_ k hlt
        have c0 := hc 0 _ rfl
        have n0 := hO.cell (stCells_get 0 (initS days left k) k (by omega))
        have nf := hO.frozen (k + 1)
        have nl := hO.lt
        have hgd : left.getD k 0 = left[k] := by rw [List.getD_eq_getElem?_getD]; simp [hlt]
        have hk4 : (k : Int) < 4 := by omega
        have hnext := hO.set (k + 1) (.int .i64 (min left[k] days))
        rw [stCells_set, ← hgd, show (initS days left k).set k (min (left.getD k 0) days) = initS days left (k + 1) from rfl, hgd] at hnext
        rw [Nat.add_comm k 1] at n0 nf
        simp only [Nat.add_zero, Nat.mul_one] at c0
        have HNx := Lib.hid (show OwnB (wr.setCell ⟨w1.heap.size + 1 + 1 + 1, 1 + k, none⟩ (.int .i64 (min left[k] days))) (w1.heap.size + 1 + 1 + 1) 143 (stCells 0 (initS days left (k + 1))) by rw [Nat.add_comm 1 k]; exact hnext)
        have HEe := Lib.hid hE
        clear hnext hE hO px hc hgd hl4 hw2
        generalize left[k] = lk at *
        go_wp2
        go_roundw
        case rel => exact ⟨k + 1, by go_num, by omega, ext_own HEe.out (by have := HW2.out; omega) _, HNx.out⟩
        case measure => simp [intOf]; omega
      · obtain rfl : k = left.length := by omega
        have hdy : 0 ≤ days ∧ days ≤ 10 := HOk.out.days
        have hsm := initS_small days left HOk.out.days HOk.out.left left.length
        have hmp := HMp.out.ext hE
        have hfrom := from_ok Al cl Ae ce most days evs w.heap.size (w1.heap.size + 1) (w1.heap.size + 1 + 1) w1.heap.size HOk.out.days (by have := HEv.out; omega) HOk.out.every (days + 1).toNat (fun b => w.heap.size ≤ b) (initS days left left.length) 0 wr px hmp (fun b hb => by have := (HE2.out.trans hE).size; omega) hsm
          (by have : (days + 1).toNat ≤ 11 := by omega
              unfold Room
              have hc : ∀ n m, n ≤ m → cost n ≤ cost m := fun n m h => by
                induction h with
                | refl => exact Nat.le_refl _
                | step _ ih => exact Nat.le_trans ih (by show _ ≤ 16 * cost _ + 1; omega)
              have h11 : cost 11 ≤ 4611686018427387904 := by decide
              have := hc _ _ this
              omega) (by omega)
        have hpf : planOf ⟨left, evs, most, days⟩ = planS most days evs (days + 1).toNat (initS days left left.length) := rfl
        obtain ⟨a, b, c, d, hu⟩ := smalls_four hsm
        rw [hu] at hfrom hO hpf
        rw [show days + 1 - (((days + 1).toNat : Nat) : Int) = 0 by omega] at hfrom
        have HFrom := Lib.hid (show Calls Try.prog 81 #[.agg #[.int .i64 0, .int .i64 a, .int .i64 b, .int .i64 c, .int .i64 d], .pointer (some ⟨w.heap.size, 0, none⟩), .pointer (some ⟨w1.heap.size + 1, 0, none⟩), .pointer (some ⟨w1.heap.size + 1 + 1, 0, none⟩)] wr (FromPost most days evs (fun b => w.heap.size ≤ b) w1.heap.size (days + 1).toNat 0 [a, b, c, d] wr) from hfrom)
        have HPf := Lib.hid hpf
        have m0 := hO.cell (j := 0) rfl
        have m1 := hO.cell (j := 1) rfl
        have m2 := hO.cell (j := 2) rfl
        have m3 := hO.cell (j := 3) rfl
        have m4 := hO.cell (j := 4) rfl
        have ml := hO.lt
        have f0 := px.self.cell (j := 0) rfl
        have HEe := Lib.hid hE
        unfold FromPost at HFrom
        clear hfrom hpf hO px hsm hmp hE hl4 hw2 hu s3
        go_wp2_with fail
        refine HFrom.out.mono ?_
        rintro e w5 ⟨A, cc, rfl, hmine, hbut, _⟩
        rw [← HPf.out] at hmine ⊢
        have hEE : Ext w w5 := but_ext_of (HE2.out.trans HEe.out) hbut (by have := HE1.out.size; omega)
        have HMine := Lib.hid hmine
        have HEE := Lib.hid hEE
        clear hmine hbut hEE
        generalize hp : planOf ⟨left, evs, most, days⟩ = p at *
        have HP := Lib.hid hp
        clear hp
        unfold planV
        cases hsome : p.some with
        | false =>
          have HS := Lib.hid hsome
          go_wp2
          have hEw := HEE.out.trans (Ext.alloc w5 (.cells [.slice A p.tests.length cc, .bool false].toArray 145))
          show Q (.returned (.tuple #[.slice none 0 0, .int .i64 3])) _
          rw [← HQ.out]
          unfold PlanPost
          rw [HSe.out, if_pos rfl, HP.out, HS.out, if_neg (by simp)]
          exact ⟨rfl, hEw⟩
        | true =>
          have HS := Lib.hid hsome
          go_wp2
          have hEw := HEE.out.trans (Ext.alloc w5 (.cells [.slice A p.tests.length cc, .bool true].toArray 145))
          show Q (.returned (.tuple #[.slice A p.tests.length cc, .int .i64 0])) _
          rw [← HQ.out]
          unfold PlanPost
          rw [HSe.out, if_pos rfl, HP.out, HS.out, if_pos rfl]
          exact ⟨⟨_, rfl, ownsRow_from (own_ext HMine.out.1 (Ext.alloc _ _)) HMine.out.2⟩, hEw⟩
  · have hne : ((se : Int) != 0) = true := by simpa using h0
    go_wp2
    show Q (.returned (.tuple #[.slice none 0 0, .int .i64 se])) w1
    rw [← HQ.out]
    unfold PlanPost
    rw [HSe.out, if_neg h0]
    exact ⟨rfl, HE1.out⟩
end Go.Proofs.Ytebfnjabgkhngaa
end
section
set_option linter.all false
set_option linter.unusedVariables false
set_option linter.unusedSimpArgs false
set_option linter.constructorNameAsVariable false
set_option linter.unusedVariables false
namespace Go.Proofs.Ytebfnjabgkhngaa
open Go.RowKit Go.RT
def FP : D := (-1099511627776, 1099511627776)
theorem plus_fp_left (q : D) : plus2 FP q = FP := by
  unfold plus2 FP plusLo plusHi
  rw [if_pos (by omega), if_pos (by omega)]
theorem plus_fp_right (q : D) : plus2 q FP = FP := by
  unfold plus2 FP plusLo plusHi
  rw [if_pos (by omega), if_pos (by omega)]
def Sm (m : Int) (p : D) : Prop := -m ≤ p.1 ∧ p.1 ≤ m ∧ -m ≤ p.2 ∧ p.2 ≤ m
theorem both_fp_right {m : Int} {p : D} (h : Sm m p) (hm : m ≤ 1000000000) : both2 p FP = p := by
  unfold Sm at h
  unfold both2 FP
  dsimp only
  apply Prod.ext
  · show max p.1 (-1099511627776) = p.1; omega
  · show min p.2 1099511627776 = p.2; omega
theorem both_fp_left {m : Int} {p : D} (h : Sm m p) (hm : m ≤ 1000000000) : both2 FP p = p := by
  unfold Sm at h
  unfold both2 FP
  dsimp only
  apply Prod.ext
  · show max (-1099511627776) p.1 = p.1; omega
  · show min 1099511627776 p.2 = p.2; omega
theorem both_fp_fp : both2 FP FP = FP := by unfold both2 FP; rfl
theorem plus_sm {m : Int} {p q : D} (hp : Sm m p) (hq : Sm m q) (hm : m ≤ 1000000000) : plus2 p q = (p.1 + q.1, p.2 + q.2) := by
  unfold Sm at hp hq
  unfold plus2 plusLo plusHi
  rw [if_neg (by omega), if_neg (by omega)]
theorem Sm.zero {m : Int} (h : 0 ≤ m) : Sm m (0, 0) := by unfold Sm; dsimp only; omega
theorem Sm.mono {m m' : Int} {p : D} (h : Sm m p) (hm : m ≤ m') : Sm m' p := by unfold Sm at *; omega
structure Inv (n k : Nat) (t : List (List D)) : Prop where
  diag : ∀ a, a ≤ k → (tget t a a).2 = 0
  anti : ∀ a b, a ≤ k → b ≤ k → (tget t a b).1 = -(tget t b a).2
  tri : ∀ a b c, a ≤ k → b ≤ k → c ≤ k → (tget t a c).2 ≤ (tget t a b).2 + (tget t b c).2
  bd : ∀ a b, a ≤ k → b ≤ k → Sm (10000 * k) (tget t a b)
  out : ∀ a b, a < n → b < n → k < a ∨ k < b → tget t a b = if a = b then (0, 0) else FP
def SatK (k : Nat) (t : List (List D)) (x : Nat → Int) : Prop := ∀ a b, a ≤ k → b ≤ k → x b - x a ≤ (tget t a b).2
def Holds (x : Nat → Int) (f : Fact) : Prop := f.d.1 ≤ x f.j - x f.i ∧ x f.j - x f.i ≤ f.d.2
theorem Inv.tab {n k : Nat} {t : List (List D)} (h : Inv n k t) (hk : k ≤ 100) : TabBd n t := fun a b ha hb => by
  by_cases hab : k < a ∨ k < b
  · rw [h.out a b ha hb hab]
    split
    · unfold Bd; dsimp only; omega
    · unfold Bd FP; dsimp only; omega
  · have := h.bd a b (by omega) (by omega)
    unfold Sm at this
    unfold Bd
    omega
theorem inv_step {n k : Nat} {t : List (List D)} (h : Inv n k t) (hk : k + 1 < n) (hk100 : k ≤ 50) {p : Nat} (hp : p ≤ k) {d : D} (hd : -10000 ≤ d.1 ∧ d.1 ≤ d.2 ∧ d.2 ≤ 10000) :
    ∃ t', withT n t p (k + 1) d = some t' ∧ Inv n (k + 1) t' ∧ ∀ x, SatK (k + 1) t' x ↔ SatK k t x ∧ Holds x ⟨p, k + 1, d⟩ := by
  have hds : Sm 10000 d := by unfold Sm; omega
  have hpj : tget t p (k + 1) = FP := by rw [h.out p (k + 1) (by omega) hk (by omega), if_neg (by omega)]
  have hdd : both2 d (tget t p (k + 1)) = d := by rw [hpj]; exact both_fp_right hds (by omega)
  have hw : withT n t p (k + 1) d = some ((List.range n).map (withRow n t p (k + 1) d)) := by
    unfold withT
    rw [hdd, if_neg (by omega)]
  refine ⟨_, hw, ?_⟩
  generalize (List.range n).map (withRow n t p (k + 1) d) = t' at *
  have get : ∀ a b, a < n → b < n → tget t' a b = withE t p (k + 1) d a b := fun a b ha hb => by
    rw [withT_get hw a b ha hb, hdd]
  have hkk : (0 : Int) ≤ 10000 * k := by omega
  have hz : (10000 : Int) * ((k + 1 : Nat) : Int) = 10000 * k + 10000 := by omega
  have ts : turn2 d = (-d.2, -d.1) := rfl
  have hts : Sm 10000 (turn2 d) := by rw [ts]; unfold Sm; dsimp only; omega
  have in_ : ∀ a b, a ≤ k → b ≤ k → tget t' a b = tget t a b := fun a b ha hb => by
    rw [get a b (by omega) (by omega)]
    unfold withE
    rw [h.out (k + 1) b hk (by omega) (by omega), if_neg (by omega), h.out a (k + 1) (by omega) hk (by omega), if_neg (by omega)]
    rw [plus_fp_right, plus_fp_left, plus_fp_left, both_fp_right (h.bd a b ha hb) (by omega), both_fp_right (h.bd a b ha hb) (by omega)]
  have to_ : ∀ a, a ≤ k → tget t' a (k + 1) = ((tget t a p).1 + d.1, (tget t a p).2 + d.2) := fun a ha => by
    have hb := h.bd a p ha hp
    have hsum : Sm (10000 * k + 10000) ((tget t a p).1 + d.1, (tget t a p).2 + d.2) := by unfold Sm at *; dsimp only; omega
    rw [get a (k + 1) (by omega) hk]
    unfold withE
    rw [h.out a (k + 1) (by omega) hk (by omega), if_neg (by omega), h.out (k + 1) (k + 1) hk hk (by omega), if_pos rfl]
    rw [plus_sm (hb.mono (by omega) : Sm (10000 * k + 10000) _) (hds.mono (by omega)) (by omega), plus_sm (m := 10000 * k + 10000) hsum (Sm.zero (by omega)) (by omega)]
    rw [plus_fp_left, plus_fp_left]
    dsimp only
    rw [Int.add_zero, Int.add_zero, both_fp_left hsum (by omega), both_fp_right hsum (by omega)]
  have from_ : ∀ b, b ≤ k → tget t' (k + 1) b = (-d.2 + (tget t p b).1, -d.1 + (tget t p b).2) := fun b hb => by
    have hb' := h.bd p b hp hb
    have hsum : Sm (10000 * k + 10000) (-d.2 + (tget t p b).1, -d.1 + (tget t p b).2) := by unfold Sm at *; dsimp only; omega
    rw [get (k + 1) b hk (by omega)]
    unfold withE
    rw [h.out (k + 1) b hk (by omega) (by omega), if_neg (by omega), h.out (k + 1) (k + 1) hk hk (by omega), if_pos rfl]
    rw [plus_fp_right, both_fp_fp]
    rw [plus_sm (m := 10000) (Sm.zero (by omega)) hts (by omega), ts]
    dsimp only
    rw [Int.zero_add, Int.zero_add, plus_sm (m := 10000 * k + 10000) (Sm.mono (by rw [← ts]; exact hts) (by omega)) (hb'.mono (by omega)) (by omega)]
    exact both_fp_left hsum (by omega)
  have self_ : tget t' (k + 1) (k + 1) = (0, 0) := by
    rw [get (k + 1) (k + 1) hk hk]
    unfold withE
    rw [h.out (k + 1) (k + 1) hk hk (by omega), if_pos rfl, h.out (k + 1) p hk (by omega) (by omega), if_neg (by omega), hpj]
    rw [plus_fp_left, plus_fp_left, plus_fp_right, both_fp_right (Sm.zero (m := 0) (by omega)) (by omega), both_fp_right (Sm.zero (m := 0) (by omega)) (by omega)]
  have dpp := h.diag p hp
  have app := h.anti p p hp hp
  rw [dpp] at app
  refine ⟨⟨?_, ?_, ?_, ?_, ?_⟩, ?_⟩
  · intro a ha
    by_cases e : a = k + 1
    · subst e; rw [self_]
    · rw [in_ a a (by omega) (by omega)]; exact h.diag a (by omega)
  · intro a b ha hb
    by_cases e : a = k + 1
    · subst e
      by_cases e2 : b = k + 1
      · subst e2; rw [self_]; rfl
      · rw [from_ b (by omega), to_ b (by omega)]
        have := h.anti p b hp (by omega)
        dsimp only; omega
    · by_cases e2 : b = k + 1
      · subst e2
        rw [to_ a (by omega), from_ a (by omega)]
        have := h.anti a p (by omega) hp
        dsimp only; omega
      · rw [in_ a b (by omega) (by omega), in_ b a (by omega) (by omega)]
        exact h.anti a b (by omega) (by omega)
  · intro a b c ha hb hc
    by_cases e : a = k + 1
    · subst e
      by_cases e2 : b = k + 1
      · subst e2; rw [self_]; dsimp only; omega
      · by_cases e3 : c = k + 1
        · subst e3
          rw [self_, from_ b (by omega), to_ b (by omega)]
          have := h.tri p b p hp (by omega) hp
          dsimp only; omega
        · rw [from_ c (by omega), from_ b (by omega), in_ b c (by omega) (by omega)]
          have := h.tri p b c hp (by omega) (by omega)
          dsimp only; omega
    · by_cases e2 : b = k + 1
      · subst e2
        by_cases e3 : c = k + 1
        · subst e3; rw [self_]; dsimp only; omega
        · rw [in_ a c (by omega) (by omega), to_ a (by omega), from_ c (by omega)]
          have := h.tri a p c (by omega) hp (by omega)
          dsimp only; omega
      · by_cases e3 : c = k + 1
        · subst e3
          rw [to_ a (by omega), in_ a b (by omega) (by omega), to_ b (by omega)]
          have := h.tri a b p (by omega) (by omega) hp
          dsimp only; omega
        · rw [in_ a c (by omega) (by omega), in_ a b (by omega) (by omega), in_ b c (by omega) (by omega)]
          exact h.tri a b c (by omega) (by omega) (by omega)
  · intro a b ha hb
    rw [hz]
    by_cases e : a = k + 1
    · subst e
      by_cases e2 : b = k + 1
      · subst e2; rw [self_]; exact Sm.zero (by omega)
      · rw [from_ b (by omega)]
        have := h.bd p b hp (by omega)
        unfold Sm at *; dsimp only; omega
    · by_cases e2 : b = k + 1
      · subst e2
        rw [to_ a (by omega)]
        have := h.bd a p (by omega) hp
        unfold Sm at *; dsimp only; omega
      · rw [in_ a b (by omega) (by omega)]
        exact (h.bd a b (by omega) (by omega)).mono (by omega)
  · intro a b ha hb hab
    rw [get a b ha hb]
    unfold withE
    by_cases e : a = b
    · subst e
      rw [if_pos rfl, h.out a a ha ha (by omega), if_pos rfl, h.out a p ha (by omega) (by omega), if_neg (by omega), h.out a (k + 1) ha hk (by omega), if_neg (by omega)]
      rw [plus_fp_left, plus_fp_left, plus_fp_left, plus_fp_left, both_fp_right (Sm.zero (m := 0) (by omega)) (by omega), both_fp_right (Sm.zero (m := 0) (by omega)) (by omega)]
    · rw [if_neg e, h.out a b ha hb (by omega), if_neg e]
      by_cases ea : k + 1 < a
      · rw [h.out a p ha (by omega) (by omega), if_neg (by omega), h.out a (k + 1) ha hk (by omega), if_neg (by omega)]
        rw [plus_fp_left, plus_fp_left, plus_fp_left, plus_fp_left, both_fp_fp, both_fp_fp]
      · rw [h.out (k + 1) b hk hb (by omega), if_neg (by omega), h.out p b (by omega) hb (by omega), if_neg (by omega)]
        rw [plus_fp_right, plus_fp_right, both_fp_fp, both_fp_fp]
  · intro x
    unfold SatK Holds
    dsimp only
    constructor
    · intro hs
      refine ⟨fun a b ha hb => by have := hs a b (by omega) (by omega); rwa [in_ a b ha hb] at this, ?_, ?_⟩
      · have := hs (k + 1) p (by omega) (by omega)
        rw [from_ p hp] at this
        dsimp only at this
        omega
      · have := hs p (k + 1) (by omega) (by omega)
        rw [to_ p hp] at this
        dsimp only at this
        omega
    · rintro ⟨hs, h1, h2⟩ a b ha hb
      by_cases e : a = k + 1
      · subst e
        by_cases e2 : b = k + 1
        · subst e2; rw [self_]; dsimp only; omega
        · rw [from_ b (by omega)]
          have := hs p b hp (by omega)
          dsimp only; omega
      · by_cases e2 : b = k + 1
        · subst e2
          rw [to_ a (by omega)]
          have := hs a p (by omega) hp
          dsimp only; omega
        · rw [in_ a b (by omega) (by omega)]
          exact hs a b (by omega) (by omega)
end Go.Proofs.Ytebfnjabgkhngaa
end
section
set_option linter.all false
set_option linter.unusedVariables false
set_option linter.unusedSimpArgs false
set_option linter.constructorNameAsVariable false
set_option linter.unusedVariables false
namespace Go.Proofs.Ytebfnjabgkhngaa
open Go.RowKit Go.RT
def SeqF : Nat → List Fact → Prop
  | _, [] => True
  | k, f :: l => (f.j = k + 1 ∧ f.i ≤ k ∧ -10000 ≤ f.d.1 ∧ f.d.1 ≤ f.d.2 ∧ f.d.2 ≤ 10000) ∧ SeqF (k + 1) l
theorem SeqF.append : ∀ (l m : List Fact) (k : Nat), SeqF k l → SeqF (k + l.length) m → SeqF k (l ++ m)
  | [], m, k, _, h => by simpa using h
  | f :: l, m, k, h, h' => ⟨h.1, SeqF.append l m (k + 1) h.2 (by simp only [List.length_cons] at h'; rwa [show k + 1 + l.length = k + (l.length + 1) by omega])⟩
theorem chain_of_seq {n : Nat} (hn : n ≤ 50) : ∀ (l : List Fact) (k : Nat) (t : List (List D)), Inv n k t → SeqF k l → k + l.length + 1 = n →
    ∃ t', Chain n l t t' ∧ Inv n (n - 1) t' ∧ ∀ x, SatK (n - 1) t' x ↔ SatK k t x ∧ ∀ f ∈ l, Holds x f
  | [], k, t, hI, _, hk => ⟨t, rfl, by simp only [List.length_nil] at hk; rwa [show n - 1 = k by omega], fun x => by simp only [List.length_nil] at hk; rw [show n - 1 = k by omega]; simp⟩
  | f :: l, k, t, hI, hs, hk => by
    simp only [List.length_cons] at hk
    obtain ⟨⟨h1, h2, h3, h4, h5⟩, hs2⟩ := hs
    obtain ⟨fi, fj, fd⟩ := f
    dsimp only at h1 h2 h3 h4 h5
    subst h1
    obtain ⟨t1, hw, hI1, hS1⟩ := inv_step hI (by omega) (by omega) h2 ⟨h3, h4, h5⟩
    obtain ⟨t', hC, hI', hS'⟩ := chain_of_seq hn l (k + 1) t1 hI1 hs2 (by omega)
    refine ⟨t', ⟨by dsimp only; omega, by dsimp only; omega, by unfold Bd; dsimp only; omega, hI.tab (by omega), t1, hw, hC⟩, hI', fun x => ?_⟩
    rw [hS' x, hS1 x]
    simp only [List.mem_cons, forall_eq_or_imp]
    constructor
    · rintro ⟨⟨a, b⟩, c⟩; exact ⟨a, b, c⟩
    · rintro ⟨a, b, c⟩; exact ⟨⟨a, b⟩, c⟩
theorem blank_get (n a b : Nat) (ha : a < n) (hb : b < n) : tget (blankT n) a b = if a = b then (0, 0) else FP := by
  unfold tget blankT blankRow FP
  simp [ha, hb]
theorem inv_blank (n : Nat) (hn : 0 < n) : Inv n 0 (blankT n) where
  diag a ha := by obtain rfl : a = 0 := by omega
                  rw [blank_get n 0 0 hn hn]; rfl
  anti a b ha hb := by obtain rfl : a = 0 := by omega
                       obtain rfl : b = 0 := by omega
                       rw [blank_get n 0 0 hn hn]; rfl
  tri a b c ha hb hc := by obtain rfl : a = 0 := by omega
                           obtain rfl : b = 0 := by omega
                           obtain rfl : c = 0 := by omega
                           rw [blank_get n 0 0 hn hn]; decide
  bd a b ha hb := by obtain rfl : a = 0 := by omega
                     obtain rfl : b = 0 := by omega
                     rw [blank_get n 0 0 hn hn]; exact Sm.zero (by omega)
  out a b ha hb _ := blank_get n a b ha hb
theorem satK_blank (n : Nat) (hn : 0 < n) (x : Nat → Int) : SatK 0 (blankT n) x := fun a b ha hb => by
  obtain rfl : a = 0 := by omega
  obtain rfl : b = 0 := by omega
  rw [blank_get n 0 0 hn hn, if_pos rfl]
  dsimp only; omega
theorem Inv.gd {n : Nat} {t : List (List D)} (h : Inv n (n - 1) t) (hn : 0 < n ∧ n ≤ 50) : Gd n t where
  diag a ha := h.diag a (by omega)
  anti a b ha hb := h.anti a b (by omega) (by omega)
  tri a b c ha hb hc := h.tri a b c (by omega) (by omega) (by omega)
  bd a b ha hb := by
    have := h.bd a b (by omega) (by omega)
    unfold Sm at this
    omega
theorem massFrom_seq : ∀ (l : List Mass) (k : Nat), (∀ x ∈ l, -10000 ≤ x.lo ∧ x.lo ≤ x.hi ∧ x.hi ≤ 10000) → SeqF k (massFrom k l)
  | [], _, _ => trivial
  | m :: l, k, h => ⟨⟨by show massIx k = k + 1; unfold massIx; omega, Nat.zero_le _, h m (by simp)⟩, massFrom_seq l (k + 1) fun x hx => h x (by simp [hx])⟩
theorem massFrom_len : ∀ (l : List Mass) (k : Nat), (massFrom k l).length = l.length
  | [], _ => rfl
  | m :: l, k => by simp [massFrom, massFrom_len l (k + 1)]
theorem drifts_seq (nm dd s : Nat) (x : Scale) (hx : -10000 ≤ x.dlo ∧ x.dlo ≤ x.dhi ∧ x.dhi ≤ 10000) : ∀ (r d : Nat), d + r = dd → SeqF (dayIx nm dd s d) (driftsFrom nm dd s x d)
  | 0, d, h => by
    obtain rfl : d = dd := by omega
    rw [driftsFrom_end]; trivial
  | r + 1, d, h => by
    rw [driftsFrom_step nm dd s x d (by omega)]
    refine ⟨⟨by show dayIx nm dd s (d + 1) = dayIx nm dd s d + 1; unfold dayIx; omega, Nat.le_refl _, ?_⟩, ?_⟩
    · show -10000 ≤ -x.dhi ∧ -x.dhi ≤ -x.dlo ∧ -x.dlo ≤ 10000; omega
    · rw [show dayIx nm dd s d + 1 = dayIx nm dd s (d + 1) by unfold dayIx; omega]
      exact drifts_seq nm dd s x hx r (d + 1) (by omega)
theorem drifts_len (nm dd s : Nat) (x : Scale) (d : Nat) : (driftsFrom nm dd s x d).length = dd - d := by simp [driftsFrom]
theorem scales_seq (nm dd : Nat) : ∀ (l : List Scale) (k : Nat), (∀ x ∈ l, -10000 ≤ x.flo ∧ x.flo ≤ x.fhi ∧ x.fhi ≤ 10000 ∧ -10000 ≤ x.dlo ∧ x.dlo ≤ x.dhi ∧ x.dhi ≤ 10000) → SeqF (nm + k * (dd + 1)) (scalesFrom nm dd k l)
  | [], _, _ => trivial
  | x :: l, k, h => by
    have hx := h x (by simp)
    refine ⟨⟨by show dayIx nm dd k 0 = nm + k * (dd + 1) + 1; unfold dayIx; omega, Nat.zero_le _, ?_⟩, ?_⟩
    · show -10000 ≤ -x.fhi ∧ -x.fhi ≤ -x.flo ∧ -x.flo ≤ 10000; omega
    · refine SeqF.append _ _ _ ?_ ?_
      · have := drifts_seq nm dd k x ⟨hx.2.2.2.1, hx.2.2.2.2.1, hx.2.2.2.2.2⟩ dd 0 (by omega)
        rwa [show dayIx nm dd k 0 = nm + k * (dd + 1) + 1 by unfold dayIx; omega] at this
      · rw [drifts_len, show nm + k * (dd + 1) + 1 + (dd - 0) = nm + (k + 1) * (dd + 1) by rw [Nat.succ_mul]; omega]
        exact scales_seq nm dd l (k + 1) fun y hy => h y (by simp [hy])
theorem scales_len (nm dd : Nat) : ∀ (l : List Scale) (k : Nat), (scalesFrom nm dd k l).length = l.length * (dd + 1)
  | [], _ => by simp [scalesFrom]
  | x :: l, k => by
    simp only [scalesFrom, List.length_cons, List.length_append, drifts_len, scales_len nm dd l (k + 1), Nat.succ_mul]
    omega
theorem start_seq {b : Bench} {dd : Nat} (hV : Valid b dd) : SeqF 0 (startFacts b dd) := by
  unfold startFacts
  refine SeqF.append _ _ _ (massFrom_seq _ _ fun x hx => ?_) ?_
  · have := hV.mass x hx; omega
  · rw [massFrom_len]
    have := scales_seq b.masses.length dd b.scales 0 hV.scale
    simpa using this
theorem start_len (b : Bench) (dd : Nat) : (startFacts b dd).length = b.masses.length + b.scales.length * (dd + 1) := by
  unfold startFacts
  rw [List.length_append, massFrom_len, scales_len]
def Ncnt (b : Bench) (dd : Nat) : Nat := dayIx b.masses.length dd b.scales.length 0
theorem ncnt_bd {b : Bench} {dd : Nat} (hV : Valid b dd) : 0 < Ncnt b dd ∧ Ncnt b dd ≤ 50 := by
  have : b.scales.length * (dd + 1) ≤ 3 * 9 := Nat.mul_le_mul hV.s3 (by have := hV.dd8; omega)
  have := hV.m5
  unfold Ncnt dayIx
  omega
theorem start_ready {b : Bench} {dd : Nat} (hV : Valid b dd) : ∃ t0, Chain (Ncnt b dd) (startFacts b dd) (blankT (Ncnt b dd)) t0 ∧ Gd (Ncnt b dd) t0 ∧ ∀ x, SatK (Ncnt b dd - 1) t0 x ↔ ∀ f ∈ startFacts b dd, Holds x f := by
  have hn := ncnt_bd hV
  obtain ⟨t0, hC, hI, hS⟩ := chain_of_seq hn.2 (startFacts b dd) 0 _ (inv_blank (Ncnt b dd) hn.1) (start_seq hV) (by rw [start_len]; unfold Ncnt dayIx; omega)
  exact ⟨t0, hC, hI.gd hn, fun x => by rw [hS x]; exact ⟨fun h => h.2, fun h => ⟨satK_blank _ hn.1 x, h⟩⟩⟩
theorem wFrom_mem : ∀ (l : List Weighing) (k : Nat) (y : Nat × Fact), y ∈ wFrom k l → ∃ x ∈ l, y.2 = wFact x
  | [], _, y, h => by simp [wFrom] at h
  | x :: l, k, y, h => by
    simp only [wFrom, List.mem_cons] at h
    rcases h with rfl | h
    · exact ⟨x, by simp, rfl⟩
    · obtain ⟨z, hz, e⟩ := wFrom_mem l (k + 1) y h
      exact ⟨z, by simp [hz], e⟩
theorem tFrom_mem (b : Bench) (dd : Nat) : ∀ (l : List Trial) (k : Nat) (y : Nat × Fact), y ∈ tFrom b dd k l → ∃ x ∈ l, y.2 = tFact b dd x
  | [], _, y, h => by simp [tFrom] at h
  | x :: l, k, y, h => by
    simp only [tFrom, List.mem_cons] at h
    rcases h with rfl | h
    · exact ⟨x, by simp, rfl⟩
    · obtain ⟨z, hz, e⟩ := tFrom_mem b dd l (k + 1) y h
      exact ⟨z, by simp [hz], e⟩
theorem res_ok {b : Bench} {dd : Nat} (hV : Valid b dd) : ∀ y ∈ resFacts b dd, FactOk (Ncnt b dd) y.2 := fun y hy => by
  have hNm : b.masses.length < Ncnt b dd := by
    unfold Ncnt dayIx; omega
  unfold resFacts at hy
  rcases List.mem_append.1 hy with hy | hy
  · obtain ⟨x, hx, e⟩ := wFrom_mem _ _ _ hy
    have h := hV.weigh x hx
    rw [e]
    refine ⟨?_, ?_, ?_⟩
    · show massIx x.b.toNat < _; unfold massIx; omega
    · show massIx x.a.toNat < _; unfold massIx; omega
    · show Bd (x.lo, x.hi); unfold Bd; dsimp only; omega
  · obtain ⟨x, hx, e⟩ := tFrom_mem b dd _ _ _ hy
    have h := hV.trial x hx
    rw [e]
    have hnom : 1 ≤ nomAt b x.mass ∧ nomAt b x.mass ≤ 1000000 := by
      unfold nomAt
      have hlt : x.mass.toNat < b.masses.length := by omega
      rw [List.getElem?_eq_getElem hlt]
      have := hV.mass b.masses[x.mass.toNat] (List.getElem_mem hlt)
      exact ⟨this.1, this.2.1⟩
    have hday : dayIx b.masses.length dd x.scale.toNat x.day.toNat < Ncnt b dd := day_lt rfl (by omega) (by omega)
    unfold tFact
    refine ⟨?_, ?_, ?_⟩
    · exact hday
    · show massIx x.mass.toNat < _; unfold massIx; omega
    · unfold Bd; dsimp only; omega
theorem ready_of {b : Bench} {dd : Nat} (hV : Valid b dd) : ∃ t0, Ready b dd (Ncnt b dd) t0 ∧ ∀ x, SatK (Ncnt b dd - 1) t0 x ↔ ∀ f ∈ startFacts b dd, Holds x f := by
  obtain ⟨t0, hC, hG, hS⟩ := start_ready hV
  exact ⟨t0, ⟨hV, rfl, hC, hG, res_ok hV⟩, hS⟩
end Go.Proofs.Ytebfnjabgkhngaa
end
