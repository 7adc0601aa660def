/-
The statement ScaleLasts: proved for every input. Part 5 of 11.
-/
import Derived.DeepKeys3
import Derived.Laws.EntriesVeiled
import Derived.Laws.OwnMore
import Derived.Maps.OwnOps
import Derived.Maps.OwnSet
import Derived.Test.YtebfnjabgkhngaaLa4
section
set_option linter.all false
set_option linter.unusedVariables false
set_option linter.unusedSimpArgs false
set_option linter.constructorNameAsVariable false
set_option linter.unusedVariables false
namespace Go.Proofs.Ytebfnjabgkhngaa
open Go.RowKit Go.RT
def PlanC (F : Option Addr → Nat → Plan → Prop) : World → Plan → List Value → Prop := fun w p cs => ∃ A c, cs = [.slice A p.tests.length c, .bool p.some] ∧ Rd 2 (Flat encD) w (.slice A p.tests.length c) p.tests ∧ F A c p
theorem PlanC.keeps (F : Option Addr → Nat → Plan → Prop) : Keeps (PlanC F) := fun w w' p cs h he => by
  obtain ⟨A, c, h1, h2, h3⟩ := h
  exact ⟨A, c, h1, h2.ext (Flat.keeps _) he, h3⟩
def bestGo : Plan → List Plan → Plan
  | o, [] => o
  | o, x :: l => bestGo (if betterP x o = true then x else o) l
def bestP : List Plan → Plan
  | [] => ⟨[], false⟩
  | x :: l => bestGo x l
theorem plan_at {w : World} {A : Option Addr} {n c : Nat} {ps : List Plan} {F : Option Addr → Nat → Plan → Prop} (h : Rd 2 (PlanC F) w (.slice A n c) ps) (k : Nat) (hk : k < ps.length) :
    ∃ b o A' c', A = some ⟨b, o, none⟩ ∧ w.cell? ⟨b, o + k * 2, none⟩ = some (.slice A' ps[k].tests.length c') ∧ w.cell? ⟨b, o + k * 2 + 1, none⟩ = some (.bool ps[k].some) ∧ Rd 2 (Flat encD) w (.slice A' ps[k].tests.length c') ps[k].tests ∧ F A' c' ps[k] := by
  obtain ⟨A0, c0, h1, _, h3⟩ := h
  obtain ⟨b, o, cs, h4, ⟨A', c', h5, h6, h8⟩, _, h7⟩ := h3 k ps[k] (List.getElem?_eq_getElem hk)
  cases h1
  subst h5
  exact ⟨b, o, A', c', h4, h7 0 _ rfl, h7 1 _ rfl, h6, h8⟩
set_option maxRecDepth 100000 in
set_option maxHeartbeats 1000000 in
theorem best_any (F : Option Addr → Nat → Plan → Prop) (hF0 : F none 0 ⟨[], false⟩) (v : Value) (ps : List Plan) (w : World) (h : Rd 2 (PlanC F) w v ps) :
    Calls Try.prog 82 #[v, .func (.func 83) #[] #[]] w fun e w' => ∃ A c, e = .returned (.agg #[.slice A (bestP ps).tests.length c, .bool (bestP ps).some]) ∧ F A c (bestP ps) ∧ Ext w w' := by
  obtain ⟨A, c, rfl, hlen⟩ := h.form
  have H := Lib.hid h
  have HF0 := Lib.hid hF0
  clear hF0
  obtain ⟨R, hR⟩ : ∃ R, bestP ps = R := ⟨_, rfl⟩
  rw [hR]
  have HR := Lib.hid hR
  clear h hR
  have hA := (OwnB.laid w 145 [.slice none 0 0, .bool false]).ext (Ext.alloc _ (.cells [.slice none 0 0, .bool false].toArray 145))
  have hB := OwnB.laid (w.alloc (.cells [.slice none 0 0, .bool false].toArray 145)) 145 [.slice none 0 0, .bool false]
  rw [World.size_alloc] at hB
  have HA := Lib.hid hA
  have HB := Lib.hid hB
  have HE := Lib.hid (show Ext w ((w.alloc (.cells [.slice none 0 0, .bool false].toArray 145)).alloc (.cells [.slice none 0 0, .bool false].toArray 145)) from (Ext.alloc _ _).trans (Ext.alloc _ _))
  clear hA hB
  go_enter Try.func82, Try.ntmps82
  go_wp2
  go_loopw [10] (fun q wr => ∃ (k : Nat) (o : Plan) (A' : Option Addr) (c' : Nat), q = .int .i64 k ∧ k ≤ ps.length ∧ Ext w wr ∧ OwnB wr (w.heap.size + 1) 145 [.slice A' o.tests.length c', .bool o.some] ∧ OwnB wr w.heap.size 145 [.slice none 0 0, .bool false] ∧ Rd 2 (Flat encD) w (.slice A' o.tests.length c') o.tests ∧ (if k = 0 then bestP ps else bestGo o (ps.drop k)) = R ∧ (k = 0 → o = ⟨[], false⟩) ∧ F A' c' o) (fun q _ => ps.length - (intOf q).toNat)
  case atStart => exact ⟨0, ⟨[], false⟩, none, 0, rfl, Nat.zero_le _, HE.out, HB.out, HA.out, Rd.nil _ _ _ _ _, by rw [if_pos rfl]; exact HR.out, fun _ => rfl, HF0.out⟩
  case round =>
    clear HA HB HE HR
    obtain ⟨k, o, A', c', rfl, hk, hE, hB, hA, hrd, hst, ho, hf⟩ := hrel
    have b0 := hB.cell (j := 0) rfl
    have b1 := hB.cell (j := 1) rfl
    have bl := hB.lt
    have f0 := hB.frozen 0
    have f1 := hB.frozen 1
    have HA := Lib.hid hA
    have HB := Lib.hid hB
    have HRd := Lib.hid hrd
    have HSt := Lib.hid hst
    have HO := Lib.hid ho
    have HFo := Lib.hid hf
    clear hA hB hrd hst ho hf
    by_cases hlt : k < ps.length
    · obtain ⟨b, off, A2, c2, rfl, p0, p1, prd, pf⟩ := plan_at H.out k hlt
      have p0 := hE.cell p0
      have p1 := hE.cell p1
      have hdr : ps.drop k = ps[k] :: ps.drop (k + 1) := List.drop_eq_getElem_cons hlt
      generalize hx : ps[k] = x at *
      have HDr := Lib.hid hdr
      clear hdr
      have HX := Lib.hid hx
      have HPr := Lib.hid prd
      have HPf := Lib.hid pf
      clear hx prd pf
      by_cases h0 : k = 0
      · have hk0 : ((k : Int) == 0) = true := by subst h0; rfl
        have H0 := Lib.hid h0
        clear h0
        go_wp2_with fail
        have hgo : bestGo x (ps.drop (k + 1)) = R := by
          have h := HSt.out
          rw [if_pos H0.out] at h
          have h2 := HDr.out
          rw [H0.out, List.drop_zero] at h2
          rw [h2] at h
          rw [H0.out]
          exact h
        refine ⟨⟨k + 1, x, A2, c2, by go_num, by omega, (ext_own (ext_own hE (by omega) _) (by omega) _).trans (Ext.alloc _ _), ((HB.out.set 0 (.slice A2 x.tests.length c2)).set 1 (.bool x.some)).ext (Ext.alloc _ _), ((HA.out.other (by omega) 0 _).other (by omega) 1 _).ext (Ext.alloc _ _), HPr.out, by rw [if_neg (by omega)]; exact hgo, fun h => by omega, HPf.out⟩, by simp [intOf]; omega⟩
      · have hk0 : ((k : Int) == 0) = false := by simpa using h0
        have H0 := Lib.hid h0
        clear h0
        go_wp2_with fail
        have hgo : bestGo (if betterP x o = true then x else o) (ps.drop (k + 1)) = R := by
          have h := HSt.out
          rw [if_neg H0.out, HDr.out] at h
          exact h
        have HGo := Lib.hid hgo
        clear hgo
        have hE1 := hE.trans (Ext.alloc wr (.cells #[.slice A2 x.tests.length c2, .bool x.some] 145))
        refine (better_any _ _ x o _ ⟨A2, c2, rfl, HPr.out.ext (Flat.keeps _) hE1⟩ ⟨A', c', rfl, HRd.out.ext (Flat.keeps _) hE1⟩).mono ?_
        rintro e w1 ⟨rfl, hE2⟩
        have hE3 := hE1.trans hE2
        have HB3 := Lib.hid ((HB.out.ext (Ext.alloc _ _)).ext hE2)
        have HA3 := Lib.hid ((HA.out.ext (Ext.alloc _ _)).ext hE2)
        have HC3 := Lib.hid ((OwnB.laid wr 145 [.slice A2 x.tests.length c2, .bool x.some]).ext hE2)
        clear hE hE1 hE2 HA HB b0 b1 f0 f1 p0 p1
        have b0 := HB3.out.cell (j := 0) rfl
        have b1 := HB3.out.cell (j := 1) rfl
        have f0 := HB3.out.frozen 0
        have f1 := HB3.out.frozen 1
        have p0 := HC3.out.cell (j := 0) rfl
        have p1 := HC3.out.cell (j := 1) rfl
        cases hb : betterP x o with
        | true =>
          have hgo := HGo.out
          rw [if_pos hb] at hgo
          have HGo2 := Lib.hid hgo
          clear hb hgo HGo
          go_wp2
          refine ⟨⟨k + 1, x, A2, c2, by go_num, by omega, ext_own (ext_own hE3 (by omega) _) (by omega) _, (HB3.out.set 0 (.slice A2 x.tests.length c2)).set 1 (.bool x.some), (HA3.out.other (by omega) 0 _).other (by omega) 1 _, HPr.out, by rw [if_neg (by omega)]; exact HGo2.out, fun h => by omega, HPf.out⟩, by simp [intOf]; omega⟩
        | false =>
          have hgo := HGo.out
          rw [if_neg (by rw [hb]; simp)] at hgo
          have HGo2 := Lib.hid hgo
          clear hb hgo HGo
          go_wp2
          refine ⟨⟨k + 1, o, A', c', by go_num, by omega, hE3, HB3.out, HA3.out, HRd.out, by rw [if_neg (by omega)]; exact HGo2.out, fun h => by omega, HFo.out⟩, by simp [intOf]; omega⟩
    · obtain rfl : k = ps.length := by omega
      have a0 := HA.out.cell (j := 0) rfl
      have a1 := HA.out.cell (j := 1) rfl
      have g0 := HA.out.frozen 0
      have g1 := HA.out.frozen 1
      have hor : o = R := by
        have := HSt.out
        by_cases h0 : ps.length = 0
        · rw [if_pos h0] at this
          have hps : ps = [] := List.eq_nil_of_length_eq_zero h0
          rw [← this, HO.out h0, hps]
          rfl
        · rw [if_neg h0, List.drop_length] at this
          exact this
      have HOr := Lib.hid hor
      clear hor
      go_wp2
      have z := (HA.out.set 0 (.slice A' o.tests.length c')).set 1 (.bool o.some)
      have z0 := z.cell (j := 0) rfl
      have z1 := z.cell (j := 1) rfl
      have hEz := ext_own (ext_own hE (b := w.heap.size) (j := 0) (Nat.le_refl _) (.slice A' o.tests.length c')) (b := w.heap.size) (j := 1) (Nat.le_refl _) (.bool o.some)
      refine bodyPost_ret (v := .agg #[.slice A' o.tests.length c', .bool o.some]) ?_ rfl ⟨A', c', by rw [← HOr.out], by rw [← HOr.out]; exact HFo.out, hEz⟩
      simp [results, Try.f82, go_sem, z0, z1]
end Go.Proofs.Ytebfnjabgkhngaa
end
section
set_option linter.all false
set_option linter.unusedVariables false
set_option linter.unusedSimpArgs false
set_option linter.constructorNameAsVariable false
set_option linter.unusedVariables false
namespace Go.Proofs.Ytebfnjabgkhngaa
open Go.RowKit Go.RT
theorem keyedM : Go.Maps.Keyed Try.prog 143 := Go.Maps.Keyed.of_law (deep_law (m := 4) (by decide) (by kernel_rfl) (by kernel_rfl) (by kernel_rfl))
def Fits (x : Int) : Prop := -1000 ≤ x ∧ x ≤ 1000
theorem Fits.wf {x : Int} (h : Fits x) : (Lit.int .i64 x).wf = true := by
  unfold Fits at h
  simp only [Lit.wf, IntKind.has, IntKind.min, IntKind.max, decide_eq_true_eq, Bool.and_eq_true]
  simp [IntKind.signed, IntKind.bits]
  omega
theorem key_any (d a b c e : Int) (hd : Fits d) (ha : Fits a) (hb : Fits b) (hc : Fits c) (he : Fits e) :
    ∃ l, keyOf Try.prog 143 (.agg #[.int .i64 d, .int .i64 a, .int .i64 b, .int .i64 c, .int .i64 e]) = some l := by
  have hu := Try.underlying143
  have hk : Try.prog.keyType 143 = true := by kernel_rfl
  have hf : (Value.agg #[.int .i64 d, .int .i64 a, .int .i64 b, .int .i64 c, .int .i64 e]).formed Try.prog 143 = true := by kernel_rfl
  obtain ⟨n, hn⟩ : ∃ n, Try.prog.types.size + 1 = n + 3 := ⟨_, rfl⟩
  have hu2 := Try.underlying141
  have hu3 := Try.underlying3
  have c1 : Try.prog.cellsOf 143 = 5 := by kernel_rfl
  have c2 : Try.prog.cellsOf 141 = 4 := by kernel_rfl
  have c3 : Try.prog.cellsOf 3 = 1 := by kernel_rfl
  unfold keyOf
  rw [hu]
  simp only [hk, hf, Bool.true_and, if_true, hn]
  have w1 := hd.wf
  have w2 := ha.wf
  have w3 := hb.wf
  have w4 := hc.wf
  have w5 := he.wf
  simp [Program.keyLits, hu, hu2, hu3, c1, c2, c3, Value.cells, List.range_succ, w1, w2, w3, w4, w5]
end Go.Proofs.Ytebfnjabgkhngaa
end
section
set_option linter.all false
set_option linter.unusedVariables false
set_option linter.unusedSimpArgs false
set_option linter.constructorNameAsVariable false
set_option linter.unusedVariables false
namespace Go.Proofs.Ytebfnjabgkhngaa
open Go.RowKit Go.RT
def innS (days : Int) (every : List Int) (day : Int) (set : Nat) (u0 : List Int) : Nat → List Int × List D × Bool
  | 0 => (u0, [], true)
  | k + 1 =>
    let p := innS days every day set u0 k
    if set.testBit k = true then
      (p.1.set k (min days (max (p.1.getD k 0) (day + every.getD k 0))), p.2.1 ++ [(day, (k : Int))], p.2.2 && decide (day ≤ min days (max (p.1.getD k 0) (day + every.getD k 0))))
    else (p.1, p.2.1, p.2.2 && decide (day ≤ p.1.getD k 0))
def stepS (most days : Int) (every : List Int) (sub : List Int → Plan) (day : Int) (u : List Int) (set : Nat) : Option Plan :=
  let p := innS days every day set u every.length
  if p.2.2 = true ∧ (p.2.1.length : Int) ≤ most then some ⟨p.2.1 ++ (sub p.1).tests, (sub p.1).some⟩ else none
def roundS (most days : Int) (every : List Int) (sub : List Int → Plan) (day : Int) (u : List Int) (n : Nat) : List Plan := (List.range n).filterMap (stepS most days every sub day u)
def planS (most days : Int) (every : List Int) : Nat → List Int → Plan
  | 0, _ => ⟨[], true⟩
  | f + 1, u => bestP (roundS most days every (planS most days every f) (days - f) u (2 ^ every.length))
theorem roundS_succ (most days : Int) (every : List Int) (sub : List Int → Plan) (day : Int) (u : List Int) (n : Nat) :
    roundS most days every sub day u (n + 1) = roundS most days every sub day u n ++ (stepS most days every sub day u n).toList := by
  unfold roundS
  rw [List.range_succ, List.filterMap_append]
  cases h : stepS most days every sub day u n <;> simp [List.filterMap_cons, h]
theorem innS_len (days : Int) (every : List Int) (day : Int) (set : Nat) (u : List Int) : ∀ k, (innS days every day set u k).1.length = u.length
  | 0 => rfl
  | k + 1 => by
    unfold innS
    dsimp only
    split
    · simp [innS_len days every day set u k]
    · exact innS_len days every day set u k
theorem innS_few (days : Int) (every : List Int) (day : Int) (set : Nat) (u : List Int) : ∀ k, (innS days every day set u k).2.1.length ≤ k
  | 0 => Nat.le_refl _
  | k + 1 => by
    have := innS_few days every day set u k
    unfold innS
    dsimp only
    split
    · simp; omega
    · dsimp only; omega
def Smalls (u : List Int) : Prop := u.length = 4 ∧ ∀ x ∈ u, Fits x
theorem innS_small (days : Int) (every : List Int) (day : Int) (set : Nat) (u : List Int) (hd : 0 ≤ days ∧ days ≤ 10) (hday : 0 ≤ day ∧ day ≤ 10) (he : ∀ x ∈ every, 0 ≤ x ∧ x ≤ 10) (hu : Smalls u) : ∀ k, Smalls (innS days every day set u k).1
  | 0 => hu
  | k + 1 => by
    have ih := innS_small days every day set u hd hday he hu k
    unfold innS
    dsimp only
    split
    · refine ⟨by simp [ih.1], fun x hx => ?_⟩
      rcases List.mem_or_eq_of_mem_set hx with hx | rfl
      · exact ih.2 x hx
      · have h1 : 0 ≤ every.getD k 0 ∧ every.getD k 0 ≤ 10 := by
          rw [List.getD_eq_getElem?_getD]
          cases h : every[k]? with
          | none => simp
          | some y => exact he y (List.mem_of_getElem? h)
        have h2 : Fits ((innS days every day set u k).1.getD k 0) := by
          rw [List.getD_eq_getElem?_getD]
          cases h : (innS days every day set u k).1[k]? with
          | none => simp [Fits]
          | some y => exact ih.2 y (List.mem_of_getElem? h)
        unfold Fits at *
        omega
    · exact ih
def stV (day : Int) (u : List Int) : Value := .agg (Value.int .i64 day :: u.map (Value.int .i64)).toArray
def planV (A : Option Addr) (c : Nat) (p : Plan) : Value := .agg #[.slice A p.tests.length c, .bool p.some]
def Mine (ok : Nat → Prop) (w : World) (A : Option Addr) (c : Nat) (p : Plan) : Prop :=
  w.ownsRow 0 100 2 (.slice A p.tests.length c) p.tests.length (p.tests.flatMap encD) ∧ ∀ g, (Value.slice A p.tests.length c).ownBlock = some g → ok g
def elemR (v : Value) : Option (DataW Value × List MemPlace) := some (.held v, [])
def ZP : Value := .agg #[.slice none 0 0, .bool false]
def CacheOk (most days : Int) (evs : List Int) (ok : Nat → Prop) (w : World) (D : DataW Value) : Prop :=
  ∀ (f : Nat) (u : List Int) (kl : Lit) (v : Value), f ≤ 11 → Smalls u → keyOf Try.prog 143 (stV (days + 1 - f) u) = some kl → Go.Maps.has D kl = true → D.atKey kl (.held ZP) = .held v →
    ∃ A c, v = planV A c (planS most days evs f u) ∧ Mine ok w A c (planS most days evs f u)
def MapOk (most days : Int) (evs : List Int) (ok : Nat → Prop) (M : Nat) (w : World) (k : Nat) : Prop :=
  ∃ D, w.ownsMap Try.prog 143 elemR M k D ∧ CacheOk most days evs ok w D
structure PCtx (vl ve : Value) (most days : Int) (evs : List Int) (Bs Bm Bf M : Nat) (w : World) : Prop where
  seals : OwnB w Bs 52 [vl, ve, .int .i64 most, .int .i64 days]
  met : OwnB w Bm 139 [.map (some M)]
  self : OwnB w Bf 140 [.func (.func 81) #[] #[.pointer (some ⟨Bs, 0, none⟩), .pointer (some ⟨Bm, 0, none⟩), .pointer (some ⟨Bf, 0, none⟩)]]
  every : Rd 1 (Flat encI) w ve evs
  ne : Bs ≠ M ∧ Bm ≠ M ∧ Bf ≠ M
  map : ∃ o : Obj, w.heap[M]? = some o ∧ o.isCells = false
theorem map_notcells {w : World} {M k : Nat} {D : DataW Value} (h : w.ownsMap Try.prog 143 elemR M k D) : ∃ o : Obj, w.heap[M]? = some o ∧ o.isCells = false := by
  obtain ⟨es, clock, h1, _⟩ := h
  exact ⟨_, h1, rfl⟩
theorem MapOk.notcells {most days : Int} {evs : List Int} {ok : Nat → Prop} {M : Nat} {w : World} {k : Nat} (h : MapOk most days evs ok M w k) : ∃ o : Obj, w.heap[M]? = some o ∧ o.isCells = false := by
  obtain ⟨D, hD, _⟩ := h
  exact map_notcells hD
theorem Mine.grown {ok : Nat → Prop} {w w' : World} {A : Option Addr} {c : Nat} {p : Plan} {row : Option Nat} (h : Mine ok w A c p) (hg : w.grownBy w' row) (hr : ∀ r, row = some r → ∃ o : Obj, w.heap[r]? = some o ∧ o.isCells = false) : Mine ok w' A c p := ⟨own_grown h.1 hg hr, h.2⟩
theorem Mine.ext {ok : Nat → Prop} {w w' : World} {A : Option Addr} {c : Nat} {p : Plan} (h : Mine ok w A c p) (he : Ext w w') : Mine ok w' A c p := ⟨own_ext h.1 he, h.2⟩
theorem Mine.mono {ok ok' : Nat → Prop} {w : World} {A : Option Addr} {c : Nat} {p : Plan} (h : Mine ok w A c p) (hok : ∀ b, b < w.heap.size → ok b → ok' b) : Mine ok' w A c p := ⟨h.1, fun g hg => hok g (h.1.lt g hg).2 (h.2 g hg)⟩
theorem Mine.rd {ok : Nat → Prop} {w : World} {A : Option Addr} {c : Nat} {p : Plan} (h : Mine ok w A c p) (hl : p.tests.length ≤ 1000) : Rd 2 (Flat encD) w (.slice A p.tests.length c) p.tests :=
  rd_owned h.1 (fun _ _ => rfl) rfl (by omega)
theorem Mine.kept {ok : Nat → Prop} {w w' : World} {A : Option Addr} {c : Nat} {p : Plan} {row : Option Nat} (h : Mine ok w A c p) (hg : w.grownBy w' row) (hr : ∀ r, row = some r → ¬ ok r) : Mine ok w' A c p := by
  refine ⟨h.1.kept hg ?_, h.2⟩
  cases ho : (Value.slice A p.tests.length c).ownBlock with
  | none => exact .inl rfl
  | some g => exact .inr (fun e => hr g e.symm (h.2 g ho))
theorem Mine.box {ok : Nat → Prop} {w w' : World} {A : Option Addr} {c : Nat} {p : Plan} {b : Nat} {T : TypeId} {cs : Array Value} (h : Mine ok w A c p) (hb : w.heap[b]? = some (.cells cs T (0, 0))) (hT : T ≠ 100) (hg : w.grownBy w' (some b)) : Mine ok w' A c p := by
  refine ⟨h.1.kept hg ?_, h.2⟩
  rcases h.1.2 with ⟨h0, _⟩ | ⟨g, cap, cur, h0, _, hgb, _⟩
  · exact .inl (by rw [h0]; rfl)
  · refine .inr fun e => ?_
    rw [h0] at e
    have : g = b := by simpa [Value.ownBlock] using e
    subst this
    rw [hb] at hgb
    cases hgb
    exact hT rfl
theorem MapOk.map {most days : Int} {evs : List Int} {ok ok' : Nat → Prop} {M : Nat} {w w' : World} {k k' : Nat} (h : MapOk most days evs ok M w k) (hk : k ≤ k') {row : Option Nat} (hg : w.grownBy w' row) (hM : some M ≠ row)
    (hm : ∀ A c p, Mine ok w A c p → Mine ok' w' A c p) : MapOk most days evs ok' M w' k' := by
  obtain ⟨D, hD, hC⟩ := h
  refine ⟨D, (hD.kept hg hM).mono hk, fun f u kl v hf hu hk hh ha => ?_⟩
  obtain ⟨A, c, h1, h2⟩ := hC f u kl v hf hu hk hh ha
  exact ⟨A, c, h1, hm _ _ _ h2⟩
theorem MapOk.ext {most days : Int} {evs : List Int} {ok : Nat → Prop} {M : Nat} {w w' : World} {k : Nat} (h : MapOk most days evs ok M w k) (he : Ext w w') : MapOk most days evs ok M w' k :=
  h.map (Nat.le_refl _) (grown_ext he) (by simp) fun _ _ _ hm => hm.ext he
theorem MapOk.weak {most days : Int} {evs : List Int} {ok ok' : Nat → Prop} {M : Nat} {w : World} {k k' : Nat} (h : MapOk most days evs ok M w k) (hk : k ≤ k') (hok : ∀ b, b < w.heap.size → ok b → ok' b) : MapOk most days evs ok' M w k' :=
  h.map hk (World.grownBy.refl w none) (by simp) fun _ _ _ hm => hm.mono hok
theorem grownBy_cell (W : World) (b j : Nat) (v : Value) : W.grownBy (W.setCell ⟨b, j, none⟩ v) (some b) :=
  ⟨rfl, rfl, rfl, (KeepsWalks.setCell W _ v).size, fun k _ hk => Below.heap_setCell _ _ _ k (fun e => hk (by rw [e]))⟩
theorem MapOk.box {most days : Int} {evs : List Int} {ok : Nat → Prop} {M : Nat} {w : World} {k : Nat} (h : MapOk most days evs ok M w k) {b : Nat} {T : TypeId} {cs : List Value} (hb : OwnB w b T cs) (hT : T ≠ 100) (j : Nat) (v : Value) : MapOk most days evs ok M (w.setCell ⟨b, j, none⟩ v) k := by
  obtain ⟨o, ho, hc⟩ := h.notcells
  refine h.map (Nat.le_refl _) (grownBy_cell w b j v) (fun e => ?_) fun _ _ _ hm => hm.box hb hT (grownBy_cell w b j v)
  cases e
  unfold OwnB at hb
  rw [hb] at ho
  cases ho
  cases hc
theorem PCtx.grown {vl ve : Value} {most days : Int} {evs : List Int} {Bs Bm Bf M : Nat} {w w' : World} (h : PCtx vl ve most days evs Bs Bm Bf M w) (hg : But M w w') (hm : ∃ o : Obj, w'.heap[M]? = some o ∧ o.isCells = false) : PCtx vl ve most days evs Bs Bm Bf M w' :=
  ⟨h.seals.but h.ne.1 hg, h.met.but h.ne.2.1 hg, h.self.but h.ne.2.2 hg, rd_grown h.every hg (fun r e => by cases e; exact h.map), h.ne, hm⟩
theorem PCtx.ext' {vl ve : Value} {most days : Int} {evs : List Int} {Bs Bm Bf M : Nat} {w w' : World} (h : PCtx vl ve most days evs Bs Bm Bf M w) (he : Ext w w') : PCtx vl ve most days evs Bs Bm Bf M w' :=
  ⟨h.seals.ext he, h.met.ext he, h.self.ext he, h.every.ext (Flat.keeps _) he, h.ne, by obtain ⟨o, h1, h2⟩ := h.map; exact ⟨o, (he.block M (Array.getElem?_eq_some_iff.1 h1).1).trans h1, h2⟩⟩
theorem grown_of_ext {M : Nat} {w w' : World} (h : Ext w w') : But M w w' := ⟨h.os, h.tape, h.output, h.size, fun k hk _ => h.block k hk⟩
theorem but_ext {M : Nat} {w0 w w' : World} (h : But M w0 w) (he : Ext w w') : But M w0 w' :=
  ⟨he.os.trans h.os, he.tape.trans h.tape, he.output.trans h.output, Nat.le_trans h.size he.size, fun k hk hne => (he.block k (Nat.lt_of_lt_of_le hk h.size)).trans (h.block k hk hne)⟩
theorem but_trans {M : Nat} {w0 w w' : World} (h : But M w0 w) (he : But M w w') : But M w0 w' :=
  ⟨he.os.trans h.os, he.tape.trans h.tape, he.output.trans h.output, Nat.le_trans h.size he.size, fun k hk hne => (he.block k (Nat.lt_of_lt_of_le hk h.size) hne).trans (h.block k hk hne)⟩
theorem but_new {M : Nat} {w0 w w' : World} {row : Option Nat} (h : But M w0 w) (he : w.grownBy w' row) (hr : ∀ r, row = some r → w0.heap.size ≤ r) : But M w0 w' :=
  ⟨he.os.trans h.os, he.tape.trans h.tape, he.output.trans h.output, Nat.le_trans h.size he.size, fun k hk hne => (he.block k (Nat.lt_of_lt_of_le hk h.size) (fun e => by have := hr k e.symm; omega)).trans (h.block k hk hne)⟩
theorem MapOk.put {most days : Int} {evs : List Int} {ok : Nat → Prop} {M : Nat} {w : World} {k f : Nat} {u : List Int} {D : DataW Value} {A : Option Addr} {c : Nat} {kl : Lit} (hD : w.ownsMap Try.prog 143 elemR M k D) (hC : CacheOk most days evs ok w D) (hf : f ≤ 11) (hu : Smalls u) (hdays : 0 ≤ days ∧ days ≤ 10)
    (hkl : keyOf Try.prog 143 (stV (days + 1 - f) u) = some kl) (hp : Mine ok w A c (planS most days evs f u)) {w' : World} (hD' : w'.ownsMap Try.prog 143 elemR M (k + 1) (D.put kl (.held (planV A c (planS most days evs f u))))) (hg : But M w w') :
    MapOk most days evs ok M w' (k + 1) := by
  have hr : ∀ r, some M = some r → ∃ o : Obj, w.heap[r]? = some o ∧ o.isCells = false := fun r e => by cases e; exact map_notcells hD
  have hI := keyedM.key hkl
  refine ⟨_, hD', fun f' u' kl' v hf' hu' hkl' hh ha => ?_⟩
  by_cases e : kl' = kl
  · subst e
    have heq := keyedM.inj hkl hkl'
    unfold stV at heq
    injection heq with heq
    have heq := congrArg Array.toList heq
    simp only [List.cons.injEq, Value.int.injEq, true_and] at heq
    have hff : f = f' := by have := heq.1; omega
    have huu : u = u' := (List.map_inj_right (fun x y h => by cases h; rfl)).1 heq.2
    subst hff
    subst huu
    rw [Go.Maps.atKey_put_same hD.isMap hI] at ha
    cases ha
    exact ⟨A, c, rfl, hp.grown hg hr⟩
  · rw [Go.Maps.has_put_other e] at hh
    rw [Go.Maps.atKey_put_other e] at ha
    obtain ⟨A', c', h1, h2⟩ := hC f' u' kl' v hf' hu' hkl' hh ha
    exact ⟨A', c', h1, h2.grown hg hr⟩
end Go.Proofs.Ytebfnjabgkhngaa
end
section
set_option linter.all false
set_option linter.unusedVariables false
set_option linter.unusedSimpArgs false
set_option linter.constructorNameAsVariable false
set_option linter.unusedVariables false
namespace Go.Proofs.Ytebfnjabgkhngaa
open Go.RowKit Go.RT
theorem bestGo_mem : ∀ (l : List Plan) (o : Plan), bestGo o l = o ∨ bestGo o l ∈ l
  | [], o => .inl rfl
  | x :: l, o => by
    unfold bestGo
    rcases bestGo_mem l (if betterP x o = true then x else o) with h | h
    · rw [h]; split
      · exact .inr (by simp)
      · exact .inl rfl
    · exact .inr (by simp [h])
theorem bestP_mem (l : List Plan) : bestP l = ⟨[], false⟩ ∨ bestP l ∈ l := by
  cases l with
  | nil => exact .inl rfl
  | cons x l =>
    rcases bestGo_mem l x with h | h
    · exact .inr (by show bestGo x l ∈ _; rw [h]; simp)
    · exact .inr (by show bestGo x l ∈ _; simp [h])
theorem planS_few (most days : Int) (evs : List Int) (h4 : evs.length ≤ 4) : ∀ (f : Nat) (u : List Int), (planS most days evs f u).tests.length ≤ 4 * f
  | 0, u => Nat.le_refl _
  | f + 1, u => by
    unfold planS
    rcases bestP_mem (roundS most days evs (planS most days evs f) (days - f) u (2 ^ evs.length)) with h | h
    · rw [h]; simp
    · unfold roundS at h
      obtain ⟨set, _, hs⟩ := List.mem_filterMap.1 h
      unfold roundS
      generalize bestP _ = p at *
      unfold stepS at hs
      dsimp only at hs
      split at hs
      · cases hs
        have h1 := innS_few days evs (days - f) set u evs.length
        have h2 := planS_few most days evs h4 f (innS days evs (days - ↑f) set u evs.length).1
        simp only [List.length_append]
        omega
      · cases hs
def cost : Nat → Nat
  | 0 => 0
  | f + 1 => 16 * cost f + 1
def Room (k : Nat) : Prop := k ≤ 4611686018427387904
theorem Room.lt {k : Nat} (h : Room k) : k < maxLen := by unfold Room at h; unfold maxLen; omega
theorem Room.mono {k k' : Nat} (h : Room k) (hk : k' ≤ k) : Room k' := by unfold Room at *; omega
def FromPost (most days : Int) (evs : List Int) (ok : Nat → Prop) (M f k : Nat) (u : List Int) (w : World) (e : Ending) (w' : World) : Prop :=
  ∃ A c, e = .returned (planV A c (planS most days evs f u)) ∧ Mine ok w' A c (planS most days evs f u) ∧ But M w w' ∧ MapOk most days evs ok M w' (k + cost f)
def FromOk (Al : Option Addr) (cl : Nat) (Ae : Option Addr) (ce : Nat) (most days : Int) (evs : List Int) (Bs Bm Bf M f : Nat) : Prop :=
  ∀ (ok : Nat → Prop) (u : List Int) (k : Nat) (w : World), PCtx (.slice Al evs.length cl) (.slice Ae evs.length ce) most days evs Bs Bm Bf M w → MapOk most days evs ok M w k → (∀ b, w.heap.size ≤ b → ok b) → Smalls u → Room (k + cost f) → (f : Int) ≤ days + 1 →
    Calls Try.prog 81 #[stV (days + 1 - f) u, .pointer (some ⟨Bs, 0, none⟩), .pointer (some ⟨Bm, 0, none⟩), .pointer (some ⟨Bf, 0, none⟩)] w (FromPost most days evs ok M f k u w)
theorem smalls_four {u : List Int} (h : Smalls u) : ∃ a b c d, u = [a, b, c, d] := by
  match u, h.1 with
  | [a, b, c, d], _ => exact ⟨a, b, c, d, rfl⟩
set_option maxRecDepth 100000 in
set_option maxHeartbeats 1000000 in
theorem plan_last (Al : Option Addr) (cl : Nat) (Ae : Option Addr) (ce : Nat) (most days : Int) (evs : List Int) (Bs Bm Bf M : Nat) (hd : 0 ≤ days ∧ days ≤ 10) : FromOk Al cl Ae ce most days evs Bs Bm Bf M 0 := by
  intro ok u k w hx hm hok hu hk hf
  obtain ⟨a, b, c, d, rfl⟩ := smalls_four hu
  have HX := Lib.hid hx
  have HM := Lib.hid hm
  have s3 := hx.seals.cell (j := 3) rfl
  have l3 := hx.seals.lt
  have hgt : decide (days < days + 1 - ((0 : Nat) : Int)) = true := by simp; omega
  have HOk := Lib.hid hok
  clear hx hm hok hk hf hu hd
  show Calls _ _ #[.agg #[.int .i64 (days + 1 - ((0 : Nat) : Int)), .int .i64 a, .int .i64 b, .int .i64 c, .int .i64 d], _, _, _] w _
  generalize hday : days + 1 - ((0 : Nat) : Int) = day at *
  have HD := Lib.hid hday
  clear hday
  obtain ⟨Q, hQ⟩ : ∃ Q, FromPost most days evs ok M 0 k [a, b, c, d] w = Q := ⟨_, rfl⟩
  rw [hQ]
  have HQ := Lib.hid hQ
  clear hQ
  go_enter Try.func81, Try.ntmps81
  go_wp2
  have hE : Ext w ((w.alloc (.cells [.int .i64 day, .int .i64 a, .int .i64 b, .int .i64 c, .int .i64 d].toArray 143)).alloc (.cells [.slice none 0 0, .bool true].toArray 145)) := (Ext.alloc _ _).trans (Ext.alloc _ _)
  refine bodyPost_ret (v := planV none 0 ⟨[], true⟩) (by simp [results, Try.f81, go_sem, planV]) rfl ?_
  rw [← HQ.out]
  exact ⟨none, 0, rfl, ⟨World.ownsRow_nil _ _ _ _, fun g hg => by simp [Value.ownBlock] at hg⟩, grown_of_ext hE, HM.out.ext hE⟩
end Go.Proofs.Ytebfnjabgkhngaa
end
section
set_option linter.all false
set_option linter.unusedVariables false
set_option linter.unusedSimpArgs false
set_option linter.constructorNameAsVariable false
set_option linter.unusedVariables false
namespace Go.Proofs.Ytebfnjabgkhngaa
open Go.RowKit Go.RT
theorem zeroPlan (w : World) : (zeroValue 145).run Try.prog w = .ok ZP w := by kernel_rfl
theorem lookup_held (w : World) {ops : Array Oper} {rest : List Oper} {o : Oper} {a : Act} {Q : Exit → Act → World → Prop} (hg : o.guard = none) (m x : Operand) (hop : o.op = Op.lookup 139 m x true)
    (M n : Nat) (D : DataW Value) (hm : a.eval m = .map (some M)) (hown : w.ownsMap Try.prog 143 elemR M n D) (key : Value) (kl : Lit) (hx : a.eval x = key) (hkey : keyOf Try.prog 143 key = some kl)
    (V0 : Value) (hb : Bool) (hat : D.atKey kl (.held ZP) = .held V0) (hh : Go.Maps.has D kl = hb) (hK : wpList Try.prog ops Q rest (a.put o.dst (.tuple #[V0, .bool hb])) w) : wpList Try.prog ops Q (o :: rest) a w := by
  refine wpList_lookup_own_ok w hg m x _ hop 143 145 keyedM Try.underlying139 elemR (zeroPlan w) (.held ZP) [] rfl M n D hm hown key kl hx hkey (fun v ps hv => ?_)
  unfold elemR at hv
  rw [hat] at hv
  cases hv
  rw [hh]
  exact hK
theorem key_smalls (day : Int) (u : List Int) (hd : Fits day) (hu : Smalls u) : ∃ kl, keyOf Try.prog 143 (stV day u) = some kl := by
  obtain ⟨a, b, c, d, rfl⟩ := smalls_four hu
  exact key_any day a b c d hd (hu.2 a (by simp)) (hu.2 b (by simp)) (hu.2 c (by simp)) (hu.2 d (by simp))
set_option maxRecDepth 100000 in
set_option maxHeartbeats 1000000 in
theorem plan_met (Al : Option Addr) (cl : Nat) (Ae : Option Addr) (ce : Nat) (most days : Int) (evs : List Int) (Bs Bm Bf M f : Nat) (hd : 0 ≤ days ∧ days ≤ 10) (ok : Nat → Prop) (u : List Int) (k : Nat) (w : World)
    (hx : PCtx (.slice Al evs.length cl) (.slice Ae evs.length ce) most days evs Bs Bm Bf M w) (D : DataW Value) (hD : w.ownsMap Try.prog 143 elemR M k D) (hC : CacheOk most days evs ok w D) (hu : Smalls u) (hf : ((f + 1 : Nat) : Int) ≤ days + 1)
    (kl : Lit) (hkl : keyOf Try.prog 143 (stV (days + 1 - (f + 1 : Nat)) u) = some kl) (hh : Go.Maps.has D kl = true) (V0 : Value) (hat : D.atKey kl (.held ZP) = .held V0) :
    Calls Try.prog 81 #[stV (days + 1 - (f + 1 : Nat)) u, .pointer (some ⟨Bs, 0, none⟩), .pointer (some ⟨Bm, 0, none⟩), .pointer (some ⟨Bf, 0, none⟩)] w (FromPost most days evs ok M (f + 1) k u w) := by
  obtain ⟨A, cc, rfl, hmine⟩ := hC (f + 1) u kl V0 (by omega) hu hkl hh hat
  obtain ⟨a, b, c, d, rfl⟩ := smalls_four hu
  have hm : MapOk most days evs ok M w k := ⟨D, hD, hC⟩
  have HM := Lib.hid hm
  have HMine := Lib.hid hmine
  have HHas := Lib.hid hh
  have HAt := Lib.hid hat
  have s3 := hx.seals.cell (j := 3) rfl
  have l3 := hx.seals.lt
  have m0 := hx.met.cell (j := 0) rfl
  have ml := hx.met.lt
  have hgt : decide (days < days + 1 - ((f + 1 : Nat) : Int)) = false := by simp; omega
  show Calls _ _ #[.agg #[.int .i64 (days + 1 - ((f + 1 : Nat) : Int)), .int .i64 a, .int .i64 b, .int .i64 c, .int .i64 d], _, _, _] w _
  have HKl := Lib.hid (show keyOf Try.prog 143 (.agg #[.int .i64 (days + 1 - ((f + 1 : Nat) : Int)), .int .i64 a, .int .i64 b, .int .i64 c, .int .i64 d]) = some kl from hkl)
  have hE0 : Ext w ((w.alloc (.cells [.int .i64 (days + 1 - ((f + 1 : Nat) : Int)), .int .i64 a, .int .i64 b, .int .i64 c, .int .i64 d].toArray 143)).alloc (.cells [.slice none 0 0, .bool false].toArray 145)) := (Ext.alloc _ _).trans (Ext.alloc _ _)
  have HD := Lib.hid (hD.kept (grown_ext hE0) (by simp))
  clear hx hm hf hu hd hC hh hat hkl hmine hE0
  generalize hday : days + 1 - ((f + 1 : Nat) : Int) = day at *
  generalize hpl : planS most days evs (f + 1) [a, b, c, d] = p at *
  have HPl := Lib.hid hpl
  clear hday hpl hD
  obtain ⟨Q, hQ⟩ : ∃ Q, FromPost most days evs ok M (f + 1) k [a, b, c, d] w = Q := ⟨_, rfl⟩
  rw [hQ]
  have HQ := Lib.hid hQ
  clear hQ
  unfold planV at HAt
  go_enter Try.func81, Try.ntmps81
  go_wp2_with (at_lookup; refine lookup_held _ rfl (.tmp 24) (.tmp 25) rfl M k D rfl HD.out _ kl rfl HKl.out _ true HAt.out HHas.out ?_)
  have hE : Ext w (((w.alloc (.cells [.int .i64 day, .int .i64 a, .int .i64 b, .int .i64 c, .int .i64 d].toArray 143)).alloc (.cells [.slice A p.tests.length cc, .bool p.some].toArray 145)).alloc (.cells [.slice A p.tests.length cc, .bool p.some].toArray 145)) := ((Ext.alloc _ _).trans (Ext.alloc _ _)).trans (Ext.alloc _ _)
  refine bodyPost_ret (v := planV A cc p) (by simp [results, Try.f81, go_sem, planV]) rfl ?_
  rw [← HQ.out]
  exact ⟨A, cc, by rw [HPl.out], by rw [HPl.out]; exact HMine.out.ext hE, grown_of_ext hE, (HM.out.ext hE).weak (by omega) (fun _ _ h => h)⟩
end Go.Proofs.Ytebfnjabgkhngaa
end
section
set_option linter.all false
set_option linter.unusedVariables false
set_option linter.unusedSimpArgs false
set_option linter.constructorNameAsVariable false
set_option linter.unusedVariables false
namespace Go.Proofs.Ytebfnjabgkhngaa
open Go.RowKit Go.RT
def GB (T : TypeId) (size B : Nat) (vt : Value) (n : Nat) (xs : List Value) (w w' : World) : Prop := w.grownBy w' vt.ownBlock ∧ (w.ownsRow B T size vt n xs → w'.ownsRow B T size vt n xs)
theorem GB.refl {T : TypeId} {size B : Nat} {vt : Value} {n : Nat} {xs : List Value} (w : World) : GB T size B vt n xs w w := ⟨World.grownBy.refl w _, id⟩
theorem GB.trans {T : TypeId} {size B : Nat} {vt : Value} {n : Nat} {xs : List Value} {w w1 w2 : World} (h : GB T size B vt n xs w w1) (h' : GB T size B vt n xs w1 w2) : GB T size B vt n xs w w2 := ⟨World.grownBy.trans h.1 h'.1, fun x => h'.2 (h.2 x)⟩
theorem GB.of_ext {T : TypeId} {size B : Nat} {vt : Value} {n : Nat} {xs : List Value} {w w' : World} (h : Ext w w') : GB T size B vt n xs w w' :=
  ⟨⟨h.os, h.tape, h.output, h.size, fun k hk _ => h.block k hk⟩, fun x => own_ext x h⟩
theorem GB.drew {T : TypeId} {size B : Nat} {vt : Value} {n : Nat} {xs : List Value} (w : World) : GB T size B vt n xs w w.drew := GB.of_ext (Ext.drew w)
section
set_option linter.all false
set_option linter.unusedVariables false
set_option linter.unusedSimpArgs false
set_option linter.constructorNameAsVariable false
variable {P : Program} (w : World)
theorem app_keeps (base : Nat) (t ty e : TypeId) (i : TypeInfo) (z : Value) (size bytes : Nat) (ht : P.underlying t = some (.slice e)) (hi : P.info? e = some i) (hz : i.zero = some z)
    (hsize : i.size = size) (hby : i.bytes = bytes) (hzs : z.cells.size = size) (hsz : 0 < size)
    (v : Value) (n : Nat) (xs : List Value) (hown : w.ownsRow base e size v n xs)
    (a : Addr) (m c : Nat) (news : List Value) (hl : news.length = m * size) (hnews : ∀ j u, news[j]? = some u → w.cell? (a.add j) = some u) (h1 : ∀ u ∈ news, u.oneCell' = true)
    (h63 : n + m ≤ maxLen) (hbytes : (n + m) * bytes ≤ 140737488355328) (hbase : base ≤ w.heap.size) :
    ∃ v' w', (Builtin.append_ #[t, t] ty #[v, .slice (some a) m c]).run P w = .ok v' w' ∧ w'.ownsRow base e size v' (n + m) (xs ++ news) ∧ GB e size base v n xs w w' := by
  obtain ⟨v', w', hr, hown', hg, _⟩ := run_append_own (P := P) w base t ty e i z size bytes ht hi hz hsize hby hzs hsz v n xs hown a m c news hl hnews h1 h63 hbytes hbase
  refine ⟨v', w', hr, hown', hg, fun _ => ?_⟩
  rcases hown.2 with ⟨rfl, rfl⟩ | ⟨g, cap, cur, rfl, hbg, hgg, hnc, hcm, hcs, htake⟩
  · have hx : xs = [] := List.eq_nil_of_length_eq_zero (by simpa using hown.1)
    subst hx
    exact World.ownsRow_nil _ _ _ _
  · subst hsize
    by_cases hroom : n + m ≤ cap
    · have hfit : n * i.size + news.length ≤ cur.size := by rw [hl, hcs, ← Nat.add_mul]; exact Nat.mul_le_mul_right _ hroom
      have hr2 := run_append_room (P := P) w t ty e i ht hi g n cap cur hgg a m c news hl hnews h1 hroom hfit
      rw [hr] at hr2
      injection hr2 with _ hw
      subst hw
      refine ⟨hown.1, .inr ⟨g, cap, _, rfl, hbg, setRow_heap w g cur _ e _ hgg, hnc, hcm, ?_, ?_⟩⟩
      · simp only [List.size_toArray, List.length_append, List.length_take, List.length_drop, Array.length_toList]
        omega
      · have hlx : xs.length = n * i.size := hown.1
        rw [htake, ← hlx, List.append_assoc]
        exact List.take_left
    · have holds : ∀ j u, xs[j]? = some u → w.cell? ((⟨g, 0, none⟩ : Addr).add j) = some u := hown.cells (g := g) rfl
      have hr2 := run_append_grow (P := P) w t ty e i z ht hi hz ⟨g, 0, none⟩ n cap xs hown.1 holds a m c news hl hnews (by omega) (by simp only [maxLen] at h63; omega) (growslice_fits (by omega) (hby ▸ hbytes))
      rw [hr] at hr2
      injection hr2 with _ hw
      subst hw
      exact World.ownsRow.alloc (w := w.drew) ⟨hown.1, .inr ⟨g, cap, cur, rfl, hbg, hgg, hnc, hcm, hcs, htake⟩⟩ _
end
theorem infoTest : (Try.prog.info? 100).map (fun i => (i.zero, i.size, i.bytes)) = some (some (.agg #[.int .i64 0, .int .i64 0]), 2, 16) := by kernel_rfl
theorem infoPlan : (Try.prog.info? 145).map (fun i => (i.zero, i.size, i.bytes)) = some (some (.agg #[.slice none 0 0, .bool false]), 2, 32) := by kernel_rfl
theorem app_plan (w : World) (ok : Nat → Prop) (B : Nat) (ty : TypeId) (vt : Value) (ts : List D) (hown : w.ownsRow B 100 2 vt ts.length (ts.flatMap encD)) (A : Option Addr) (c : Nat) (p : Plan) (hp : Mine ok w A c p) (hts : ts.length ≤ 1000) (hps : p.tests.length ≤ 1000) (hB : B ≤ w.heap.size) :
    ∃ v' w', (Builtin.append_ #[62, 62] ty #[vt, .slice A p.tests.length c]).run Try.prog w = .ok v' w' ∧ w'.ownsRow B 100 2 v' (ts.length + p.tests.length) ((ts ++ p.tests).flatMap encD) ∧ GB 100 2 B vt ts.length (ts.flatMap encD) w w' := by
  obtain ⟨i, hi, hz0, hz1, hz2⟩ := info_parts infoTest
  obtain ⟨⟨hpl, hp2⟩, _⟩ := hp
  have hcells := fun g h => World.ownsRow.cells (w := w) (base := 0) (e := 100) (size := 2) (v := .slice A p.tests.length c) (n := p.tests.length) (xs := p.tests.flatMap encD) ⟨hpl, hp2⟩ (g := g) h
  rcases hp2 with ⟨h0, hn⟩ | ⟨g, cap, cur, h0, _, hg, _, _, _, _⟩
  · have hpt : p.tests = [] := List.eq_nil_of_length_eq_zero hn
    rw [h0, hpt]
    exact ⟨vt, w, run_append_owned_none w B _ _ _ i 2 Try.underlying62 hi vt _ _ hown, by simpa using hown, GB.refl w⟩
  · simp only [Value.slice.injEq] at h0
    obtain ⟨rfl, _, rfl⟩ := h0
    rw [List.flatMap_append]
    refine app_keeps w B 62 ty 100 i (.agg #[.int .i64 0, .int .i64 0]) 2 16 Try.underlying62 hi hz0 hz1 hz2 rfl (by decide) vt ts.length _ hown ⟨g, 0, none⟩ p.tests.length c (p.tests.flatMap encD) (flatD_len _) (hcells g rfl) ?_ (by unfold maxLen; omega) (by omega) hB
    intro u hu
    obtain ⟨x, _, hx⟩ := List.mem_flatMap.1 hu
    simp only [encD, List.mem_cons, List.not_mem_nil, or_false] at hx
    rcases hx with rfl | rfl <;> rfl
end Go.Proofs.Ytebfnjabgkhngaa
end
section
set_option linter.all false
set_option linter.unusedVariables false
set_option linter.unusedSimpArgs false
set_option linter.constructorNameAsVariable false
set_option linter.unusedVariables false
namespace Go.Proofs.Ytebfnjabgkhngaa
open Go.RowKit Go.RT
abbrev Raw := Option Addr × Nat × Plan
def encQ (q : Raw) : List Value := [.slice q.1 q.2.2.tests.length q.2.1, .bool q.2.2.some]
structure Hold (most days : Int) (evs : List Int) (ok : Nat → Prop) (M : Nat) (w : World) (mcs : List Value) (L kk : Nat) (va : Value) (qs : List Raw) (wi : World) : Prop where
  but : But M w wi
  map : MapOk most days evs (fun b => ok b ∧ b < L) M wi kk
  own4 : OwnB wi w.heap.size 143 mcs
  own5 : OwnB wi (w.heap.size + 1) 145 [.slice none 0 0, .bool false]
  all : wi.ownsRow (w.heap.size + 2) 145 2 va qs.length (qs.flatMap encQ)
  allLt : ∀ g, va.ownBlock = some g → g < L
  mine : ∀ q ∈ qs, Mine (fun g => w.heap.size ≤ g ∧ g < L) wi q.1 q.2.1 q.2.2
  lo : w.heap.size + 2 < L
  hi : L ≤ wi.heap.size
section
set_option linter.all false
set_option linter.unusedVariables false
set_option linter.unusedSimpArgs false
set_option linter.constructorNameAsVariable false
variable {most days : Int} {evs : List Int} {ok : Nat → Prop} {M : Nat} {w : World} {mcs : List Value} {L kk : Nat} {va : Value} {qs : List Raw} {wi wi' : World}
theorem Hold.mw (h : Hold most days evs ok M w mcs L kk va qs wi) : ∃ o : Obj, wi.heap[M]? = some o ∧ o.isCells = false := h.map.notcells
theorem Hold.pctx {vl ve : Value} {Bs Bm Bf : Nat} (h : Hold most days evs ok M w mcs L kk va qs wi) (hx : PCtx vl ve most days evs Bs Bm Bf M w) : PCtx vl ve most days evs Bs Bm Bf M wi := hx.grown h.but h.mw
theorem Hold.ext (h : Hold most days evs ok M w mcs L kk va qs wi) (he : Ext wi wi') : Hold most days evs ok M w mcs L kk va qs wi' :=
  ⟨but_ext h.but he, h.map.ext he, h.own4.ext he, h.own5.ext he, own_ext h.all he, h.allLt, fun q hq => (h.mine q hq).ext he, h.lo, Nat.le_trans h.hi he.size⟩
theorem Hold.new {row : Option Nat} (h : Hold most days evs ok M w mcs L kk va qs wi) (hg : wi.grownBy wi' row) (hr : ∀ r, row = some r → L ≤ r ∧ M ≠ r) : Hold most days evs ok M w mcs L kk va qs wi' := by
  have hlo := h.lo
  refine ⟨but_new h.but hg (fun r e => by have := (hr r e).1; omega), h.map.map (Nat.le_refl _) hg (fun e => (hr M e.symm).2 rfl) fun A c p hm => hm.kept hg (fun r e hk => by have := (hr r e).1; omega), ?_, ?_, ?_, h.allLt, ?_, h.lo, Nat.le_trans h.hi hg.size⟩
  · exact (hg.block _ h.own4.lt (fun e => by have := (hr _ e.symm).1; omega)).trans h.own4
  · exact (hg.block _ h.own5.lt (fun e => by have := (hr _ e.symm).1; omega)).trans h.own5
  · refine h.all.kept hg ?_
    cases hv : va.ownBlock with
    | none => exact .inl rfl
    | some g => exact .inr (fun e => by have := (hr g e.symm).1; have := h.allLt g hv; omega)
  · exact fun q hq => (h.mine q hq).kept hg (fun r e hk => by have := (hr r e).1; omega)
theorem Hold.weak (h : Hold most days evs ok M w mcs L kk va qs wi) {L' kk' : Nat} (hL : L ≤ L') (hL' : L' ≤ wi.heap.size) (hk : kk ≤ kk') : Hold most days evs ok M w mcs L' kk' va qs wi :=
  ⟨h.but, h.map.weak hk (fun b _ hb => ⟨hb.1, by omega⟩), h.own4, h.own5, h.all, fun g hg => by have := h.allLt g hg; omega, fun q hq => (h.mine q hq).mono fun b _ hb => ⟨hb.1, by omega⟩, by have := h.lo; omega, hL'⟩
end
theorem own_form {w : World} {B n size : Nat} {T : TypeId} {v : Value} {xs : List Value} (h : w.ownsRow B T size v n xs) : ∃ A c, v = .slice A n c := by
  rcases h.2 with ⟨rfl, rfl⟩ | ⟨g, cap, cur, rfl, _⟩
  · exact ⟨_, _, rfl⟩
  · exact ⟨_, _, rfl⟩
theorem ne_map {M : Nat} {w : World} {b : Nat} {T : TypeId} {cs : List Value} (hM : ∃ o : Obj, w.heap[M]? = some o ∧ o.isCells = false) (hb : OwnB w b T cs) : M ≠ b := fun e => by
  subst e
  obtain ⟨o, h1, h2⟩ := hM
  unfold OwnB at hb
  rw [hb] at h1
  cases h1
  cases h2
theorem ne_map_row {M : Nat} {w : World} {B n size : Nat} {T : TypeId} {v : Value} {xs : List Value} (hM : ∃ o : Obj, w.heap[M]? = some o ∧ o.isCells = false) (hb : w.ownsRow B T size v n xs) : ∀ r, v.ownBlock = some r → M ≠ r := fun r hr e => by
  subst e
  obtain ⟨o, h1, h2⟩ := hM
  rcases hb.2 with ⟨rfl, _⟩ | ⟨g, cap, cur, rfl, _, hg, _⟩
  · simp [Value.ownBlock] at hr
  · have : g = M := by simpa [Value.ownBlock] using hr
    subst this
    rw [hg] at h1
    cases h1
    cases h2
def stCells (day : Int) (u : List Int) : List Value := .int .i64 day :: u.map (Value.int .i64)
theorem stCells_set (day : Int) (u : List Int) (k : Nat) (x : Int) : (stCells day u).set (k + 1) (.int .i64 x) = stCells day (u.set k x) := by
  simp [stCells, List.map_set]
theorem stCells_get (day : Int) (u : List Int) (k : Nat) (h : k < u.length) : (stCells day u)[k + 1]? = some (.int .i64 (u.getD k 0)) := by
  simp [stCells, List.getD_eq_getElem?_getD, h]
end Go.Proofs.Ytebfnjabgkhngaa
end
section
set_option linter.all false
set_option linter.unusedVariables false
set_option linter.unusedSimpArgs false
set_option linter.constructorNameAsVariable false
set_option linter.unusedVariables false
namespace Go.Proofs.Ytebfnjabgkhngaa
open Go.RowKit Go.RT
def HasAll (t : Array Value) : List (Nat × Value) → Prop
  | [] => True
  | (j, v) :: l => t[j]? = some v ∧ HasAll t l
def HasF (n : Nat) (fix : List (Nat × Value)) (a : Act) : Prop := a.defers = [] ∧ a.tmps.size = n ∧ HasAll a.tmps fix
def slotOf (fix : List (Nat × Value)) (x : Nat → Value) (j : Nat) : Value :=
  match fix with
  | [] => x j
  | (i, v) :: l => if i = j then v else slotOf l x j
def mkF (n : Nat) (fix : List (Nat × Value)) (x : Nat → Value) : Act := { tmps := ((List.range n).map (slotOf fix x)).toArray, defers := [] }
theorem slotOf_has {t : Array Value} : ∀ {fix : List (Nat × Value)} (j : Nat), HasAll t fix → j < t.size → t[j]? = some (slotOf fix (fun i => t.getD i undef) j)
  | [], j, _, hj => by simp [slotOf, hj]
  | (i, v) :: l, j, h, hj => by
    unfold slotOf
    split
    · rename_i e; subst e; exact h.1
    · exact slotOf_has j h.2 hj
theorem HasF.lit {n : Nat} {fix : List (Nat × Value)} {a : Act} (h : HasF n fix a) : ∃ x, a = mkF n fix x := by
  obtain ⟨h1, h2, h3⟩ := h
  refine ⟨fun i => a.tmps.getD i undef, ?_⟩
  cases a with
  | mk t d =>
    dsimp only at *
    subst h1
    unfold mkF
    congr 1
    apply Array.ext_getElem?
    intro j
    by_cases hj : j < n
    · rw [slotOf_has j h3 (by omega)]
      simp [hj]
    · rw [Array.getElem?_eq_none (by omega)]
      simp [hj]
def findBlock (id : Nat) : Code → Option Code
  | .block i c => if i = id then some c else findBlock id c
  | .seq a b => match findBlock id a with
    | some c => some c
    | none => findBlock id b
  | .scope c => findBlock id c
  | .loop c => findBlock id c
  | .cond _ a b => match findBlock id a with
    | some c => some c
    | none => findBlock id b
  | _ => none
noncomputable def blk (f : Func) (id : Nat) : Code := (f.body.bind (findBlock id)).getD .skip
def loopBody : Code → Code
  | .loop c => c
  | _ => .skip
end Go.Proofs.Ytebfnjabgkhngaa
end
section
set_option linter.all false
set_option linter.unusedVariables false
set_option linter.unusedSimpArgs false
set_option linter.constructorNameAsVariable false
set_option linter.unusedVariables false
namespace Go.Proofs.Ytebfnjabgkhngaa
open Go.RowKit Go.RT
theorem bit_test (s i : Nat) (hs : s ≤ 1000) : (bits BinOp.and IntKind.i64 ((s : Int) / 2 ^ i) 1 == 1) = s.testBit i := by
  have e : ((s : Int) / 2 ^ i) = ((s / 2 ^ i : Nat) : Int) := by simp
  have hb : s / 2 ^ i ≤ s := Nat.div_le_self _ _
  rw [e, Nat.testBit_eq_decide_div_mod_eq]
  generalize s / 2 ^ i = y at *
  have h1 : (BitVec.ofInt 64 1).toNat = 2 ^ 1 - 1 := by decide
  have key : (BitVec.ofInt 64 (y : Int) &&& BitVec.ofInt 64 1).toNat = y % 2 := by
    rw [BitVec.toNat_and, BitVec.toNat_ofInt, h1, Nat.and_two_pow_sub_one_eq_mod]
    omega
  have hv : bits BinOp.and IntKind.i64 (y : Int) 1 = ((y % 2 : Nat) : Int) := by
    show IntKind.i64.wrap ((BitVec.ofInt 64 (y : Int) &&& BitVec.ofInt 64 1).toNat : Nat) = _
    rw [key, IntKind.wrap_i64]
    omega
  rw [hv]
  by_cases h : y % 2 = 1
  · simp [h]
  · have : y % 2 = 0 := by omega
    simp [this]
theorem max_i64 (ats : Array TypeId) (ty : TypeId) (x y : Int) : Builtin.max_ ats ty #[.int .i64 x, .int .i64 y] = pure (.int .i64 (max x y)) := by
  have e : (if x < y then y else x) = max x y := by rw [Int.max_def]; split <;> split <;> omega
  simp only [Builtin.max_, List.foldlM_cons, List.foldlM_nil, Builtin.max2, gt_iff_lt, e]
  rfl
theorem min_i64 (ats : Array TypeId) (ty : TypeId) (x y : Int) : Builtin.min_ ats ty #[.int .i64 x, .int .i64 y] = pure (.int .i64 (min x y)) := by
  have e : (if y < x then y else x) = min x y := by rw [Int.min_def]; split <;> split <;> omega
  simp only [Builtin.min_, List.foldlM_cons, List.foldlM_nil, Builtin.min2, e]
  rfl
def InnR (most days : Int) (evs : List Int) (ok : Nat → Prop) (M : Nat) (w : World) (mcs : List Value) (L kk : Nat) (va : Value) (qs : List Raw) (day : Int) (set : Nat) (u0 : List Int) (i : Nat) (vt : Value) (wi : World) : Prop :=
  Hold most days evs ok M w mcs L kk va qs wi ∧ OwnB wi L 143 (stCells (day + 1) (innS days evs day set u0 i).1) ∧
    wi.ownsRow (L + 1) 100 2 vt (innS days evs day set u0 i).2.1.length ((innS days evs day set u0 i).2.1.flatMap encD)
def fixI (Bs Bm Bf W L T N set : Nat) (va : Value) (Ae : Option Addr) (ce : Nat) (vt : Value) (sl : Bool) (q : Nat) : List (Nat × Value) :=
  [(1, .pointer (some ⟨Bs, 0, none⟩)), (2, .pointer (some ⟨Bm, 0, none⟩)), (3, .pointer (some ⟨Bf, 0, none⟩)), (4, .pointer (some ⟨W, 0, none⟩)), (5, .pointer (some ⟨W + 1, 0, none⟩)), (8, va), (9, .int .i64 set), (10, .pointer (some ⟨L, 0, none⟩)), (11, vt), (12, .bool sl), (34, .int .i64 T), (35, .int .i64 set), (45, .slice Ae N ce), (46, .int .i64 N), (47, .int .i64 q)]
set_option maxRecDepth 100000 in
set_option maxHeartbeats 2000000 in
theorem inner_no_t (Al : Option Addr) (cl : Nat) (Ae : Option Addr) (ce : Nat) (most days : Int) (evs : List Int) (Bs Bm Bf M : Nat) (hd : 0 ≤ days ∧ days ≤ 10) (N : Nat) (hN : evs.length = N) (hn : N ≤ 4) (hev : ∀ x ∈ evs, 0 ≤ x ∧ x ≤ 10) (ok : Nat → Prop) (w : World)
    (hx : PCtx (.slice Al evs.length cl) (.slice Ae evs.length ce) most days evs Bs Bm Bf M w) (day : Int) (hday : 0 ≤ day ∧ day ≤ 10) (set T L kk : Nat) (hset : set ≤ 16) (va : Value) (qs : List Raw) (u0 : List Int) (hu : Smalls u0) (mrest : List Value) (i : Nat) (hi : i < N) (hbit : set.testBit i = false) (vt : Value) (wi : World)
    (hR : InnR most days evs ok M w (.int .i64 day :: mrest) L kk va qs day set u0 i vt wi) (hbb : (innS days evs day set u0 i).2.2 = true) (x : Nat → Value) (Q : Exit → Act → World → Prop)
    (hnext : ∀ a' w' vt', HasF 119 (fixI Bs Bm Bf w.heap.size L T N set va Ae ce vt' (innS days evs day set u0 (i + 1)).2.2 (i + 1)) a' → InnR most days evs ok M w (.int .i64 day :: mrest) L kk va qs day set u0 (i + 1) vt' w' → Q .normal a' w') :
    (loopBody (blk Try.f81 2)).wp Try.prog Q (mkF 119 (fixI Bs Bm Bf w.heap.size L T N set va Ae ce vt true i) x) wi := by
  obtain ⟨hH, hNx, hRow⟩ := hR
  have hul := innS_len days evs day set u0 i
  have htl := innS_few days evs day set u0 i
  have hsm := innS_small days evs day set u0 hd hday hev hu i
  have hstep : innS days evs day set u0 (i + 1) = (if set.testBit i = true then
      ((innS days evs day set u0 i).1.set i (min days (max ((innS days evs day set u0 i).1.getD i 0) (day + evs.getD i 0))), (innS days evs day set u0 i).2.1 ++ [(day, (i : Int))], (innS days evs day set u0 i).2.2 && decide (day ≤ min days (max ((innS days evs day set u0 i).1.getD i 0) (day + evs.getD i 0))))
    else ((innS days evs day set u0 i).1, (innS days evs day set u0 i).2.1, (innS days evs day set u0 i).2.2 && decide (day ≤ (innS days evs day set u0 i).1.getD i 0))) := rfl
  rw [if_neg (by rw [hbit]; simp)] at hstep
  have hbt := bit_test set i (by omega)
  rw [hbit] at hbt
  unfold InnR at hnext
  rw [hstep] at hnext
  clear hstep hbit
  generalize innS days evs day set u0 i = pp at *
  obtain ⟨uu, tt, bb⟩ := pp
  dsimp only at hNx hRow hul htl hsm hbb hnext
  subst hbb
  have hu4 : uu.length = 4 := hul.trans hu.1
  have hMn := ne_map hH.mw hNx
  have hMr := ne_map_row hH.mw hRow
  have PX := hH.pctx hx
  have s3 := PX.seals.cell (j := 3) rfl
  have s4 := PX.seals.lt
  have b0 := hH.own4.cell (j := 0) rfl
  have bl := hH.own4.lt
  have hLw := hH.lo
  have n0 := hNx.cell (stCells_get (day + 1) uu i (by omega))
  have nl := hNx.lt
  have nf := hNx.frozen (i + 1)
  rw [Nat.add_comm i 1] at n0 nf
  obtain ⟨be, oe, hAe, hec⟩ := PX.every.at_ i (by omega)
  have e0 := hec 0 _ rfl
  have hevi := hev evs[i] (List.getElem_mem (by omega))
  have hgd : evs.getD i 0 = evs[i] := by rw [List.getD_eq_getElem?_getD]; simp [show i < evs.length by omega]
  have huf : Fits (uu.getD i 0) := hsm.2 _ (by rw [List.getD_eq_getElem?_getD, List.getElem?_eq_getElem (by omega)]; exact List.getElem_mem _)
  have hi4 : (i : Int) < 4 := by omega
  have hi40 : 0 ≤ (i : Int) := by omega
  subst hAe
  try rw [hgd] at hnext
  obtain ⟨At, ct, rfl⟩ := own_form hRow
  have HH := Lib.hid hH
  have HNx := Lib.hid hNx
  have HRow := Lib.hid hRow
  have HMn := Lib.hid hMn
  have HMr := Lib.hid hMr
  have HUl := Lib.hid hu4
  have HX := Lib.hid hx
  generalize evs[i] = ev at *
  generalize hui : uu.getD i 0 = ui at *
  have HUi := Lib.hid hui
  clear hui
  unfold Fits at huf
  clear hH hNx hRow hMn hMr hsm PX hx hec hgd hev hu hul hu4 hN
  simp only [Nat.add_zero, Nat.mul_one] at e0
  have HNext := Lib.hid hnext
  clear hnext
  show Code.wp Try.prog _ Q { tmps := #[x 0, .pointer (some ⟨Bs, 0, none⟩), .pointer (some ⟨Bm, 0, none⟩), .pointer (some ⟨Bf, 0, none⟩), .pointer (some ⟨w.heap.size, 0, none⟩), .pointer (some ⟨w.heap.size + 1, 0, none⟩), x 6, x 7, va, .int .i64 set, .pointer (some ⟨L, 0, none⟩), .slice At tt.length ct, .bool true, x 13, x 14, x 15, x 16, x 17, x 18, x 19, x 20, x 21, x 22, x 23, x 24, x 25, x 26, x 27, x 28, x 29, x 30, x 31, x 32, x 33, .int .i64 T, .int .i64 set, x 36, x 37, x 38, x 39, x 40, x 41, x 42, x 43, x 44, .slice (some ⟨be, oe, none⟩) N ce, .int .i64 N, .int .i64 i, x 48, x 49, x 50, x 51, x 52, x 53, x 54, x 55, x 56, x 57, x 58, x 59, x 60, x 61, x 62, x 63, x 64, x 65, x 66, x 67, x 68, x 69, x 70, x 71, x 72, x 73, x 74, x 75, x 76, x 77, x 78, x 79, x 80, x 81, x 82, x 83, x 84, x 85, x 86, x 87, x 88, x 89, x 90, x 91, x 92, x 93, x 94, x 95, x 96, x 97, x 98, x 99, x 100, x 101, x 102, x 103, x 104, x 105, x 106, x 107, x 108, x 109, x 110, x 111, x 112, x 113, x 114, x 115, x 116, x 117, x 118], defers := [] } wi
  conv => arg 2; whnf
  go_wp2
  refine region_ext 11 [] (by kernel_rfl) (by kernel_rfl) trivial ?_
  simp only [List.take_succ_cons, List.take_zero, List.drop_succ_cons, List.drop_zero]
  refine wpR_val (v := ?_) ?_ ?_ (fun w1 hS hK => ?_) ?_
  rotate_left
  · rfl
  · rfl
  · clear hK hS
    go_simp
    with_reducible rfl
  simp only [Act.put, List.setIfInBounds_toArray, List.set_cons_zero, List.set_cons_succ]
  refine wpR_val (v := ?_) ?_ ?_ (fun w1 hS hK => ?_) ?_
  rotate_left
  · rfl
  · rfl
  · clear hK hS
    go_simp
    with_reducible rfl
  simp only [Act.put, List.setIfInBounds_toArray, List.set_cons_zero, List.set_cons_succ]
  refine wpR_val (v := ?_) ?_ ?_ (fun w1 hS hK => ?_) ?_
  rotate_left
  · first | rfl | simp [Region.wanted, yielded, *]
  · rfl
  · clear hK hS
    go_simp
    with_reducible rfl
  simp only [Act.put, List.setIfInBounds_toArray, List.set_cons_zero, List.set_cons_succ]
  refine wpR_val (v := ?_) ?_ ?_ (fun w1 hS hK => ?_) ?_
  rotate_left
  · first | rfl | simp [Region.wanted, yielded, *]
  · rfl
  · clear hK hS
    go_simp
    with_reducible rfl
  simp only [Act.put, List.setIfInBounds_toArray, List.set_cons_zero, List.set_cons_succ]
  refine wpR_val (v := ?_) ?_ ?_ (fun w1 hS hK => ?_) ?_
  rotate_left
  · first | rfl | simp [Region.wanted, yielded, *]
  · rfl
  · have E1 := (Ext.refl _).trans hS
    have k0 := E1.cell n0
    have k1 := E1.cell b0
    clear hK hS E1
    go_simp
    with_reducible rfl
  simp only [Act.put, List.setIfInBounds_toArray, List.set_cons_zero, List.set_cons_succ]
  refine wpR_val (v := ?_) ?_ ?_ (fun w1 hS hK => ?_) ?_
  rotate_left
  · first | rfl | simp [Region.wanted, yielded, *]
  · rfl
  · have E1 := (Ext.refl _).trans hS
    have k0 := E1.cell n0
    have k1 := E1.cell b0
    clear hK hS E1
    go_simp
    with_reducible rfl
  simp only [Act.put, List.setIfInBounds_toArray, List.set_cons_zero, List.set_cons_succ]
  refine wpR_val (v := ?_) ?_ ?_ (fun w1 hS hK => ?_) ?_
  rotate_left
  · first | rfl | simp [Region.wanted, yielded, *]
  · rfl
  · clear hK hS
    go_simp
    with_reducible rfl
  simp only [Act.put, List.setIfInBounds_toArray, List.set_cons_zero, List.set_cons_succ]
  refine wpR_val (v := ?_) ?_ ?_ (fun w1 hS hK => ?_) ?_
  rotate_left
  · first | rfl | simp [Region.wanted, yielded, *]
  · rfl
  · have E1 := (Ext.refl _).trans hS
    have k0 := E1.cell n0
    have k1 := E1.cell b0
    clear hK hS E1
    go_simp
    with_reducible rfl
  simp only [Act.put, List.setIfInBounds_toArray, List.set_cons_zero, List.set_cons_succ]
  refine wpR_val (v := ?_) ?_ ?_ (fun w1 hS hK => ?_) ?_
  rotate_left
  · first | rfl | simp [Region.wanted, yielded, *]
  · rfl
  · clear hK hS
    go_simp
    with_reducible rfl
  simp only [Act.put, List.setIfInBounds_toArray, List.set_cons_zero, List.set_cons_succ]
  refine wpR_val (v := ?_) ?_ ?_ (fun w1 hS hK => ?_) ?_
  rotate_left
  · rfl
  · rfl
  · clear hK hS
    go_simp
    with_reducible rfl
  simp only [Act.put, List.setIfInBounds_toArray, List.set_cons_zero, List.set_cons_succ]
  refine wpR_val (v := ?_) ?_ ?_ (fun w1 hS hK => ?_) ?_
  rotate_left
  · rfl
  · rfl
  · clear hK hS
    go_simp
    with_reducible rfl
  simp only [Act.put, List.setIfInBounds_toArray, List.set_cons_zero, List.set_cons_succ]
  intro w2 E2 _
  go_wp2
  refine HNext.out _ _ (.slice At tt.length ct) ⟨rfl, rfl, by repeat (first | exact trivial | refine ⟨rfl, ?_⟩)⟩ ⟨HH.out.ext E2, HNx.out.ext E2, own_ext HRow.out E2⟩
set_option maxRecDepth 100000 in
set_option maxHeartbeats 2000000 in
theorem inner_no_f (Al : Option Addr) (cl : Nat) (Ae : Option Addr) (ce : Nat) (most days : Int) (evs : List Int) (Bs Bm Bf M : Nat) (hd : 0 ≤ days ∧ days ≤ 10) (N : Nat) (hN : evs.length = N) (hn : N ≤ 4) (hev : ∀ x ∈ evs, 0 ≤ x ∧ x ≤ 10) (ok : Nat → Prop) (w : World)
    (hx : PCtx (.slice Al evs.length cl) (.slice Ae evs.length ce) most days evs Bs Bm Bf M w) (day : Int) (hday : 0 ≤ day ∧ day ≤ 10) (set T L kk : Nat) (hset : set ≤ 16) (va : Value) (qs : List Raw) (u0 : List Int) (hu : Smalls u0) (mrest : List Value) (i : Nat) (hi : i < N) (hbit : set.testBit i = false) (vt : Value) (wi : World)
    (hR : InnR most days evs ok M w (.int .i64 day :: mrest) L kk va qs day set u0 i vt wi) (hbb : (innS days evs day set u0 i).2.2 = false) (x : Nat → Value) (Q : Exit → Act → World → Prop)
    (hnext : ∀ a' w' vt', HasF 119 (fixI Bs Bm Bf w.heap.size L T N set va Ae ce vt' (innS days evs day set u0 (i + 1)).2.2 (i + 1)) a' → InnR most days evs ok M w (.int .i64 day :: mrest) L kk va qs day set u0 (i + 1) vt' w' → Q .normal a' w') :
    (loopBody (blk Try.f81 2)).wp Try.prog Q (mkF 119 (fixI Bs Bm Bf w.heap.size L T N set va Ae ce vt false i) x) wi := by
  obtain ⟨hH, hNx, hRow⟩ := hR
  have hul := innS_len days evs day set u0 i
  have htl := innS_few days evs day set u0 i
  have hsm := innS_small days evs day set u0 hd hday hev hu i
  have hstep : innS days evs day set u0 (i + 1) = (if set.testBit i = true then
      ((innS days evs day set u0 i).1.set i (min days (max ((innS days evs day set u0 i).1.getD i 0) (day + evs.getD i 0))), (innS days evs day set u0 i).2.1 ++ [(day, (i : Int))], (innS days evs day set u0 i).2.2 && decide (day ≤ min days (max ((innS days evs day set u0 i).1.getD i 0) (day + evs.getD i 0))))
    else ((innS days evs day set u0 i).1, (innS days evs day set u0 i).2.1, (innS days evs day set u0 i).2.2 && decide (day ≤ (innS days evs day set u0 i).1.getD i 0))) := rfl
  rw [if_neg (by rw [hbit]; simp)] at hstep
  have hbt := bit_test set i (by omega)
  rw [hbit] at hbt
  unfold InnR at hnext
  rw [hstep] at hnext
  clear hstep hbit
  generalize innS days evs day set u0 i = pp at *
  obtain ⟨uu, tt, bb⟩ := pp
  dsimp only at hNx hRow hul htl hsm hbb hnext
  subst hbb
  have hu4 : uu.length = 4 := hul.trans hu.1
  have hMn := ne_map hH.mw hNx
  have hMr := ne_map_row hH.mw hRow
  have PX := hH.pctx hx
  have s3 := PX.seals.cell (j := 3) rfl
  have s4 := PX.seals.lt
  have b0 := hH.own4.cell (j := 0) rfl
  have bl := hH.own4.lt
  have hLw := hH.lo
  have n0 := hNx.cell (stCells_get (day + 1) uu i (by omega))
  have nl := hNx.lt
  have nf := hNx.frozen (i + 1)
  rw [Nat.add_comm i 1] at n0 nf
  obtain ⟨be, oe, hAe, hec⟩ := PX.every.at_ i (by omega)
  have e0 := hec 0 _ rfl
  have hevi := hev evs[i] (List.getElem_mem (by omega))
  have hgd : evs.getD i 0 = evs[i] := by rw [List.getD_eq_getElem?_getD]; simp [show i < evs.length by omega]
  have huf : Fits (uu.getD i 0) := hsm.2 _ (by rw [List.getD_eq_getElem?_getD, List.getElem?_eq_getElem (by omega)]; exact List.getElem_mem _)
  have hi4 : (i : Int) < 4 := by omega
  have hi40 : 0 ≤ (i : Int) := by omega
  subst hAe
  try rw [hgd] at hnext
  obtain ⟨At, ct, rfl⟩ := own_form hRow
  have HH := Lib.hid hH
  have HNx := Lib.hid hNx
  have HRow := Lib.hid hRow
  have HMn := Lib.hid hMn
  have HMr := Lib.hid hMr
  have HUl := Lib.hid hu4
  have HX := Lib.hid hx
  generalize evs[i] = ev at *
  generalize hui : uu.getD i 0 = ui at *
  have HUi := Lib.hid hui
  clear hui
  unfold Fits at huf
  clear hH hNx hRow hMn hMr hsm PX hx hec hgd hev hu hul hu4 hN
  simp only [Nat.add_zero, Nat.mul_one] at e0
  have HNext := Lib.hid hnext
  clear hnext
  show Code.wp Try.prog _ Q { tmps := #[x 0, .pointer (some ⟨Bs, 0, none⟩), .pointer (some ⟨Bm, 0, none⟩), .pointer (some ⟨Bf, 0, none⟩), .pointer (some ⟨w.heap.size, 0, none⟩), .pointer (some ⟨w.heap.size + 1, 0, none⟩), x 6, x 7, va, .int .i64 set, .pointer (some ⟨L, 0, none⟩), .slice At tt.length ct, .bool false, x 13, x 14, x 15, x 16, x 17, x 18, x 19, x 20, x 21, x 22, x 23, x 24, x 25, x 26, x 27, x 28, x 29, x 30, x 31, x 32, x 33, .int .i64 T, .int .i64 set, x 36, x 37, x 38, x 39, x 40, x 41, x 42, x 43, x 44, .slice (some ⟨be, oe, none⟩) N ce, .int .i64 N, .int .i64 i, x 48, x 49, x 50, x 51, x 52, x 53, x 54, x 55, x 56, x 57, x 58, x 59, x 60, x 61, x 62, x 63, x 64, x 65, x 66, x 67, x 68, x 69, x 70, x 71, x 72, x 73, x 74, x 75, x 76, x 77, x 78, x 79, x 80, x 81, x 82, x 83, x 84, x 85, x 86, x 87, x 88, x 89, x 90, x 91, x 92, x 93, x 94, x 95, x 96, x 97, x 98, x 99, x 100, x 101, x 102, x 103, x 104, x 105, x 106, x 107, x 108, x 109, x 110, x 111, x 112, x 113, x 114, x 115, x 116, x 117, x 118], defers := [] } wi
  conv => arg 2; whnf
  go_wp2
  refine region_ext 11 [] (by kernel_rfl) (by kernel_rfl) trivial ?_
  simp only [List.take_succ_cons, List.take_zero, List.drop_succ_cons, List.drop_zero]
  refine wpR_val (v := ?_) ?_ ?_ (fun w1 hS hK => ?_) ?_
  rotate_left
  · rfl
  · rfl
  · clear hK hS
    go_simp
    with_reducible rfl
  simp only [Act.put, List.setIfInBounds_toArray, List.set_cons_zero, List.set_cons_succ]
  refine wpR_val (v := ?_) ?_ ?_ (fun w1 hS hK => ?_) ?_
  rotate_left
  · rfl
  · rfl
  · clear hK hS
    go_simp
    with_reducible rfl
  simp only [Act.put, List.setIfInBounds_toArray, List.set_cons_zero, List.set_cons_succ]
  refine wpR_skip (by first | rfl | simp [Region.wanted, yielded, *]) ?_
  simp only [Act.put, List.setIfInBounds_toArray, List.set_cons_zero, List.set_cons_succ]
  refine wpR_skip (by first | rfl | simp [Region.wanted, yielded, *]) ?_
  simp only [Act.put, List.setIfInBounds_toArray, List.set_cons_zero, List.set_cons_succ]
  refine wpR_skip (by first | rfl | simp [Region.wanted, yielded, *]) ?_
  simp only [Act.put, List.setIfInBounds_toArray, List.set_cons_zero, List.set_cons_succ]
  refine wpR_skip (by first | rfl | simp [Region.wanted, yielded, *]) ?_
  simp only [Act.put, List.setIfInBounds_toArray, List.set_cons_zero, List.set_cons_succ]
  refine wpR_skip (by first | rfl | simp [Region.wanted, yielded, *]) ?_
  simp only [Act.put, List.setIfInBounds_toArray, List.set_cons_zero, List.set_cons_succ]
  refine wpR_skip (by first | rfl | simp [Region.wanted, yielded, *]) ?_
  simp only [Act.put, List.setIfInBounds_toArray, List.set_cons_zero, List.set_cons_succ]
  refine wpR_skip (by first | rfl | simp [Region.wanted, yielded, *]) ?_
  simp only [Act.put, List.setIfInBounds_toArray, List.set_cons_zero, List.set_cons_succ]
  refine wpR_val (v := ?_) ?_ ?_ (fun w1 hS hK => ?_) ?_
  rotate_left
  · rfl
  · rfl
  · clear hK hS
    go_simp
    with_reducible rfl
  simp only [Act.put, List.setIfInBounds_toArray, List.set_cons_zero, List.set_cons_succ]
  refine wpR_val (v := ?_) ?_ ?_ (fun w1 hS hK => ?_) ?_
  rotate_left
  · rfl
  · rfl
  · clear hK hS
    go_simp
    with_reducible rfl
  simp only [Act.put, List.setIfInBounds_toArray, List.set_cons_zero, List.set_cons_succ]
  intro w2 E2 _
  go_wp2
  refine HNext.out _ _ (.slice At tt.length ct) ⟨rfl, rfl, by repeat (first | exact trivial | refine ⟨rfl, ?_⟩)⟩ ⟨HH.out.ext E2, HNx.out.ext E2, own_ext HRow.out E2⟩
end Go.Proofs.Ytebfnjabgkhngaa
end
section
set_option linter.all false
set_option linter.unusedVariables false
set_option linter.unusedSimpArgs false
set_option linter.constructorNameAsVariable false
set_option linter.unusedVariables false
namespace Go.Proofs.Ytebfnjabgkhngaa
open Go.RowKit Go.RT
attribute [local go_sem] max_i64 min_i64
set_option maxRecDepth 100000 in
set_option maxHeartbeats 2000000 in
theorem inner_yes_t (Al : Option Addr) (cl : Nat) (Ae : Option Addr) (ce : Nat) (most days : Int) (evs : List Int) (Bs Bm Bf M : Nat) (hd : 0 ≤ days ∧ days ≤ 10) (N : Nat) (hN : evs.length = N) (hn : N ≤ 4) (hev : ∀ x ∈ evs, 0 ≤ x ∧ x ≤ 10) (ok : Nat → Prop) (w : World)
    (hx : PCtx (.slice Al evs.length cl) (.slice Ae evs.length ce) most days evs Bs Bm Bf M w) (day : Int) (hday : 0 ≤ day ∧ day ≤ 10) (set T L kk : Nat) (hset : set ≤ 16) (va : Value) (qs : List Raw) (u0 : List Int) (hu : Smalls u0) (mrest : List Value) (i : Nat) (hi : i < N) (hbit : set.testBit i = true) (vt : Value) (wi : World)
    (hR : InnR most days evs ok M w (.int .i64 day :: mrest) L kk va qs day set u0 i vt wi) (hbb : (innS days evs day set u0 i).2.2 = true) (x : Nat → Value) (Q : Exit → Act → World → Prop)
    (hnext : ∀ a' w' vt', HasF 119 (fixI Bs Bm Bf w.heap.size L T N set va Ae ce vt' (innS days evs day set u0 (i + 1)).2.2 (i + 1)) a' → InnR most days evs ok M w (.int .i64 day :: mrest) L kk va qs day set u0 (i + 1) vt' w' → Q .normal a' w') :
    (loopBody (blk Try.f81 2)).wp Try.prog Q (mkF 119 (fixI Bs Bm Bf w.heap.size L T N set va Ae ce vt true i) x) wi := by
  obtain ⟨hH, hNx, hRow⟩ := hR
  have hul := innS_len days evs day set u0 i
  have htl := innS_few days evs day set u0 i
  have hsm := innS_small days evs day set u0 hd hday hev hu i
  have hstep : innS days evs day set u0 (i + 1) = (if set.testBit i = true then
      ((innS days evs day set u0 i).1.set i (min days (max ((innS days evs day set u0 i).1.getD i 0) (day + evs.getD i 0))), (innS days evs day set u0 i).2.1 ++ [(day, (i : Int))], (innS days evs day set u0 i).2.2 && decide (day ≤ min days (max ((innS days evs day set u0 i).1.getD i 0) (day + evs.getD i 0))))
    else ((innS days evs day set u0 i).1, (innS days evs day set u0 i).2.1, (innS days evs day set u0 i).2.2 && decide (day ≤ (innS days evs day set u0 i).1.getD i 0))) := rfl
  rw [if_pos (by rw [hbit])] at hstep
  have hbt := bit_test set i (by omega)
  rw [hbit] at hbt
  unfold InnR at hnext
  rw [hstep] at hnext
  clear hstep hbit
  generalize innS days evs day set u0 i = pp at *
  obtain ⟨uu, tt, bb⟩ := pp
  dsimp only at hNx hRow hul htl hsm hbb hnext
  subst hbb
  have hu4 : uu.length = 4 := hul.trans hu.1
  have hMn := ne_map hH.mw hNx
  have hMr := ne_map_row hH.mw hRow
  have PX := hH.pctx hx
  have s3 := PX.seals.cell (j := 3) rfl
  have s4 := PX.seals.lt
  have b0 := hH.own4.cell (j := 0) rfl
  have bl := hH.own4.lt
  have hLw := hH.lo
  have n0 := hNx.cell (stCells_get (day + 1) uu i (by omega))
  have nl := hNx.lt
  have nf := hNx.frozen (i + 1)
  rw [Nat.add_comm i 1] at n0 nf
  obtain ⟨be, oe, hAe, hec⟩ := PX.every.at_ i (by omega)
  have e0 := hec 0 _ rfl
  have hevi := hev evs[i] (List.getElem_mem (by omega))
  have hgd : evs.getD i 0 = evs[i] := by rw [List.getD_eq_getElem?_getD]; simp [show i < evs.length by omega]
  have huf : Fits (uu.getD i 0) := hsm.2 _ (by rw [List.getD_eq_getElem?_getD, List.getElem?_eq_getElem (by omega)]; exact List.getElem_mem _)
  have hi4 : (i : Int) < 4 := by omega
  have hi40 : 0 ≤ (i : Int) := by omega
  subst hAe
  try rw [hgd] at hnext
  obtain ⟨At, ct, rfl⟩ := own_form hRow
  have HH := Lib.hid hH
  have HNx := Lib.hid hNx
  have HRow := Lib.hid hRow
  have HMn := Lib.hid hMn
  have HMr := Lib.hid hMr
  have HUl := Lib.hid hu4
  have HX := Lib.hid hx
  generalize evs[i] = ev at *
  generalize hui : uu.getD i 0 = ui at *
  have HUi := Lib.hid hui
  clear hui
  unfold Fits at huf
  clear hH hNx hRow hMn hMr hsm PX hx hec hgd hev hu hul hu4 hN
  simp only [Nat.add_zero, Nat.mul_one] at e0
  have HNext := Lib.hid hnext
  clear hnext
  show Code.wp Try.prog _ Q { tmps := #[x 0, .pointer (some ⟨Bs, 0, none⟩), .pointer (some ⟨Bm, 0, none⟩), .pointer (some ⟨Bf, 0, none⟩), .pointer (some ⟨w.heap.size, 0, none⟩), .pointer (some ⟨w.heap.size + 1, 0, none⟩), x 6, x 7, va, .int .i64 set, .pointer (some ⟨L, 0, none⟩), .slice At tt.length ct, .bool true, x 13, x 14, x 15, x 16, x 17, x 18, x 19, x 20, x 21, x 22, x 23, x 24, x 25, x 26, x 27, x 28, x 29, x 30, x 31, x 32, x 33, .int .i64 T, .int .i64 set, x 36, x 37, x 38, x 39, x 40, x 41, x 42, x 43, x 44, .slice (some ⟨be, oe, none⟩) N ce, .int .i64 N, .int .i64 i, x 48, x 49, x 50, x 51, x 52, x 53, x 54, x 55, x 56, x 57, x 58, x 59, x 60, x 61, x 62, x 63, x 64, x 65, x 66, x 67, x 68, x 69, x 70, x 71, x 72, x 73, x 74, x 75, x 76, x 77, x 78, x 79, x 80, x 81, x 82, x 83, x 84, x 85, x 86, x 87, x 88, x 89, x 90, x 91, x 92, x 93, x 94, x 95, x 96, x 97, x 98, x 99, x 100, x 101, x 102, x 103, x 104, x 105, x 106, x 107, x 108, x 109, x 110, x 111, x 112, x 113, x 114, x 115, x 116, x 117, x 118], defers := [] } wi
  conv => arg 2; whnf
  obtain ⟨ii, hi', hz0, hz1, hz2⟩ := info_parts infoTest
  have HI := Lib.hid (And.intro hi' (And.intro hz0 (And.intro hz1 hz2)))
  clear hi' hz0 hz1 hz2
  go_wp2_with (at_builtin; refine wpList_append_own _ rfl (.tmp 57) (.tmp 62) 62 rfl (L + 1) 100 ii (.agg #[.int .i64 0, .int .i64 0]) 2 16 Try.underlying62 HI.out.1 HI.out.2.1 HI.out.2.2.1 HI.out.2.2.2 rfl (by decide) _ _ _ rfl (own_ext HRow.out (Ext.alloc _ _)) ⟨wi.heap.size, 0, none⟩ 1 1 [.int .i64 day, .int .i64 i] rfl rfl ?c1 ?c2 ?c3 ?c4 ?c5 ?_)
  case c1 => exact cells_new wi [.int .i64 day, .int .i64 i] 100
  case c2 => intro u hu; simp at hu; rcases hu with rfl | rfl <;> rfl
  case c3 => unfold maxLen; omega
  case c4 => omega
  case c5 => have := HH.out.hi; simp; omega
  intro v2 w2 hown2 hgrow2 _
  have hown2' : w2.ownsRow (L + 1) 100 2 v2 (tt ++ [(day, (i : Int))]).length ((tt ++ [(day, (i : Int))]).flatMap encD) := by
    rw [List.flatMap_append, List.length_append]; exact hown2
  have h2 := (HH.out.ext (Ext.alloc wi (.cells [.int .i64 day, .int .i64 i].toArray 100))).new hgrow2 (fun r e => ⟨by have := (HRow.out.lt r e).1; omega, HMr.out r e⟩)
  have hn2 : OwnB w2 L 143 (stCells (day + 1) uu) := (hgrow2.block L (by have := HNx.out.lt; simp; omega) (fun e => by have := (HRow.out.lt L e.symm).1; omega)).trans (HNx.out.ext (Ext.alloc wi (.cells [.int .i64 day, .int .i64 i].toArray 100)))
  obtain ⟨A2, c2, rfl⟩ := own_form hown2'
  have PX2 := h2.pctx HX.out
  have q3 := PX2.seals.cell (j := 3) rfl
  have p0 := h2.own4.cell (j := 0) rfl
  have m0 := hn2.cell (stCells_get (day + 1) uu i (by have := HUl.out; omega))
  have mf := hn2.frozen (i + 1)
  have ml := hn2.lt
  rw [HUi.out, Nat.add_comm i 1] at m0
  rw [Nat.add_comm i 1] at mf
  have H2 := Lib.hid h2
  have N2 := Lib.hid hn2
  have R2 := Lib.hid hown2'
  have HW := Lib.hid (show IntKind.i64.wrap (day + ev) = day + ev by rw [IntKind.wrap_i64]; omega)
  clear h2 hn2 hown2 hown2' hgrow2 PX2 s3 s4 b0 n0 nf nl e0 bl
  go_wp2
  refine region_ext 15 [] (by kernel_rfl) (by kernel_rfl) trivial ?_
  simp only [List.take_succ_cons, List.take_zero, List.drop_succ_cons, List.drop_zero]
  refine wpR_val (v := ?_) ?_ ?_ (fun w1 hS hK => ?_) ?_
  rotate_left
  · rfl
  · rfl
  · clear hK hS
    go_simp
    with_reducible rfl
  simp only [Act.put, List.setIfInBounds_toArray, List.set_cons_zero, List.set_cons_succ]
  refine wpR_val (v := ?_) ?_ ?_ (fun w1 hS hK => ?_) ?_
  rotate_left
  · rfl
  · rfl
  · clear hK hS
    go_simp
    with_reducible rfl
  simp only [Act.put, List.setIfInBounds_toArray, List.set_cons_zero, List.set_cons_succ]
  refine wpR_val (v := ?_) ?_ ?_ (fun w1 hS hK => ?_) ?_
  rotate_left
  · rfl
  · rfl
  · have E1 := (Ext.refl _).trans hS
    have k0 := E1.cell q3
    have k1 := E1.cell p0
    have k2 := E1.cell m0
    clear hK hS E1
    go_simp
    with_reducible rfl
  simp only [Act.put, List.setIfInBounds_toArray, List.set_cons_zero, List.set_cons_succ]
  refine wpR_val (v := ?_) ?_ ?_ (fun w1 hS hK => ?_) ?_
  rotate_left
  · rfl
  · rfl
  · clear hK hS
    go_simp
    with_reducible rfl
  simp only [Act.put, List.setIfInBounds_toArray, List.set_cons_zero, List.set_cons_succ]
  refine wpR_val (v := ?_) ?_ ?_ (fun w1 hS hK => ?_) ?_
  rotate_left
  · rfl
  · rfl
  · clear hK hS
    go_simp
    with_reducible rfl
  simp only [Act.put, List.setIfInBounds_toArray, List.set_cons_zero, List.set_cons_succ]
  refine wpR_val (v := ?_) ?_ ?_ (fun w1 hS hK => ?_) ?_
  rotate_left
  · rfl
  · rfl
  · have E1 := (Ext.refl _).trans hS
    have k0 := E1.cell q3
    have k1 := E1.cell p0
    have k2 := E1.cell m0
    clear hK hS E1
    go_simp
    with_reducible rfl
  simp only [Act.put, List.setIfInBounds_toArray, List.set_cons_zero, List.set_cons_succ]
  refine wpR_val (v := ?_) ?_ ?_ (fun w1 hS hK => ?_) ?_
  rotate_left
  · rfl
  · rfl
  · have E1 := (Ext.refl _).trans hS
    have k0 := E1.cell q3
    have k1 := E1.cell p0
    have k2 := E1.cell m0
    clear hK hS E1
    go_simp
    with_reducible rfl
  simp only [Act.put, List.setIfInBounds_toArray, List.set_cons_zero, List.set_cons_succ]
  refine wpR_val (v := ?_) ?_ ?_ (fun w1 hS hK => ?_) ?_
  rotate_left
  · rfl
  · rfl
  · clear hK hS
    go_simp
    with_reducible rfl
  simp only [Act.put, List.setIfInBounds_toArray, List.set_cons_zero, List.set_cons_succ]
  refine wpR_val (v := ?_) ?_ ?_ (fun w1 hS hK => ?_) ?_
  rotate_left
  · rfl
  · rfl
  · have E1 := (Ext.refl _).trans hS
    have k0 := E1.cell q3
    have k1 := E1.cell p0
    have k2 := E1.cell m0
    clear hK hS E1
    go_simp
    with_reducible rfl
  simp only [Act.put, List.setIfInBounds_toArray, List.set_cons_zero, List.set_cons_succ]
  refine wpR_val (v := ?_) ?_ ?_ (fun w1 hS hK => ?_) ?_
  rotate_left
  · rfl
  · rfl
  · clear hK hS
    go_simp
    with_reducible rfl
  simp only [Act.put, List.setIfInBounds_toArray, List.set_cons_zero, List.set_cons_succ]
  refine wpR_val (v := ?_) ?_ ?_ (fun w1 hS hK => ?_) ?_
  rotate_left
  · rfl
  · rfl
  · clear hK hS
    have kw := HW.out
    go_simp
    with_reducible rfl
  simp only [Act.put, List.setIfInBounds_toArray, List.set_cons_zero, List.set_cons_succ]
  refine wpR_val (v := ?_) ?_ ?_ (fun w1 hS hK => ?_) ?_
  rotate_left
  · rfl
  · rfl
  · have E1 := (Ext.refl _).trans hS
    have k0 := E1.cell q3
    have k1 := E1.cell p0
    have k2 := E1.cell m0
    clear hK hS E1
    go_simp
    with_reducible rfl
  simp only [Act.put, List.setIfInBounds_toArray, List.set_cons_zero, List.set_cons_succ]
  refine wpR_val (v := ?_) ?_ ?_ (fun w1 hS hK => ?_) ?_
  rotate_left
  · rfl
  · rfl
  · have E1 := (Ext.refl _).trans hS
    have k0 := E1.cell q3
    have k1 := E1.cell p0
    have k2 := E1.cell m0
    clear hK hS E1
    go_simp
    with_reducible rfl
  simp only [Act.put, List.setIfInBounds_toArray, List.set_cons_zero, List.set_cons_succ]
  refine wpR_val (v := ?_) ?_ ?_ (fun w1 hS hK => ?_) ?_
  rotate_left
  · rfl
  · rfl
  · clear hK hS
    go_simp
    with_reducible rfl
  simp only [Act.put, List.setIfInBounds_toArray, List.set_cons_zero, List.set_cons_succ]
  refine wpR_val (v := ?_) ?_ ?_ (fun w1 hS hK => ?_) ?_
  rotate_left
  · rfl
  · rfl
  · have E1 := (Ext.refl _).trans hS
    have k0 := E1.cell q3
    have k1 := E1.cell p0
    have k2 := E1.cell m0
    clear hK hS E1
    go_simp
    with_reducible rfl
  simp only [Act.put, List.setIfInBounds_toArray, List.set_cons_zero, List.set_cons_succ]
  intro w3 E3 _
  have h3 := (H2.out.ext E3).new (grownBy_cell w3 L (1 + i) (.int .i64 (min days (max ui (day + ev))))) (fun r e => by cases e; exact ⟨Nat.le_refl _, HMn.out⟩)
  have hn3 := (N2.out.ext E3).set (i + 1) (.int .i64 (min days (max ui (day + ev))))
  rw [stCells_set] at hn3
  have r3 := own_ext R2.out E3
  have r3 := r3.kept (grownBy_cell w3 L (1 + i) (.int .i64 (min days (max ui (day + ev))))) (.inr (fun e => by have := (r3.lt L e).1; omega))
  have m3 := (N2.out.ext E3).cell (stCells_get (day + 1) uu i (by have := HUl.out; omega))
  have mf3 := (N2.out.ext E3).frozen (i + 1)
  have m4 := hn3.cell (stCells_get (day + 1) (uu.set i (min days (max ui (day + ev)))) i (by have := HUl.out; simp; omega))
  have p4 := h3.own4.cell (j := 0) rfl
  have hgs : (uu.set i (min days (max ui (day + ev)))).getD i 0 = min days (max ui (day + ev)) := by
    have := HUl.out
    rw [List.getD_eq_getElem?_getD]; simp [show i < uu.length by omega]
  rw [hgs] at m4
  rw [Nat.add_comm i 1] at m3 m4 mf3
  rw [Nat.add_comm i 1] at hn3
  have H3 := Lib.hid h3
  have N3 := Lib.hid hn3
  have R3 := Lib.hid r3
  clear h3 hn3 r3 q3 p0 m0 mf ml hgs
  go_wp2
  refine region_ext 11 [] (by kernel_rfl) (by kernel_rfl) trivial ?_
  simp only [List.take_succ_cons, List.take_zero, List.drop_succ_cons, List.drop_zero]
  refine wpR_val (v := ?_) ?_ ?_ (fun w1 hS hK => ?_) ?_
  rotate_left
  · rfl
  · rfl
  · clear hK hS
    go_simp
    with_reducible rfl
  simp only [Act.put, List.setIfInBounds_toArray, List.set_cons_zero, List.set_cons_succ]
  refine wpR_val (v := ?_) ?_ ?_ (fun w1 hS hK => ?_) ?_
  rotate_left
  · rfl
  · rfl
  · clear hK hS
    go_simp
    with_reducible rfl
  simp only [Act.put, List.setIfInBounds_toArray, List.set_cons_zero, List.set_cons_succ]
  refine wpR_val (v := ?_) ?_ ?_ (fun w1 hS hK => ?_) ?_
  rotate_left
  · first | rfl | simp [Region.wanted, yielded, *]
  · rfl
  · clear hK hS
    go_simp
    with_reducible rfl
  simp only [Act.put, List.setIfInBounds_toArray, List.set_cons_zero, List.set_cons_succ]
  refine wpR_val (v := ?_) ?_ ?_ (fun w1 hS hK => ?_) ?_
  rotate_left
  · first | rfl | simp [Region.wanted, yielded, *]
  · rfl
  · clear hK hS
    go_simp
    with_reducible rfl
  simp only [Act.put, List.setIfInBounds_toArray, List.set_cons_zero, List.set_cons_succ]
  refine wpR_val (v := ?_) ?_ ?_ (fun w1 hS hK => ?_) ?_
  rotate_left
  · first | rfl | simp [Region.wanted, yielded, *]
  · rfl
  · have E1 := (Ext.refl _).trans hS
    have k0 := E1.cell m4
    have k1 := E1.cell p4
    clear hK hS E1
    go_simp
    with_reducible rfl
  simp only [Act.put, List.setIfInBounds_toArray, List.set_cons_zero, List.set_cons_succ]
  refine wpR_val (v := ?_) ?_ ?_ (fun w1 hS hK => ?_) ?_
  rotate_left
  · first | rfl | simp [Region.wanted, yielded, *]
  · rfl
  · have E1 := (Ext.refl _).trans hS
    have k0 := E1.cell m4
    have k1 := E1.cell p4
    clear hK hS E1
    go_simp
    with_reducible rfl
  simp only [Act.put, List.setIfInBounds_toArray, List.set_cons_zero, List.set_cons_succ]
  refine wpR_val (v := ?_) ?_ ?_ (fun w1 hS hK => ?_) ?_
  rotate_left
  · first | rfl | simp [Region.wanted, yielded, *]
  · rfl
  · clear hK hS
    go_simp
    with_reducible rfl
  simp only [Act.put, List.setIfInBounds_toArray, List.set_cons_zero, List.set_cons_succ]
  refine wpR_val (v := ?_) ?_ ?_ (fun w1 hS hK => ?_) ?_
  rotate_left
  · first | rfl | simp [Region.wanted, yielded, *]
  · rfl
  · have E1 := (Ext.refl _).trans hS
    have k0 := E1.cell m4
    have k1 := E1.cell p4
    clear hK hS E1
    go_simp
    with_reducible rfl
  simp only [Act.put, List.setIfInBounds_toArray, List.set_cons_zero, List.set_cons_succ]
  refine wpR_val (v := ?_) ?_ ?_ (fun w1 hS hK => ?_) ?_
  rotate_left
  · first | rfl | simp [Region.wanted, yielded, *]
  · rfl
  · clear hK hS
    go_simp
    with_reducible rfl
  simp only [Act.put, List.setIfInBounds_toArray, List.set_cons_zero, List.set_cons_succ]
  refine wpR_val (v := ?_) ?_ ?_ (fun w1 hS hK => ?_) ?_
  rotate_left
  · rfl
  · rfl
  · clear hK hS
    go_simp
    with_reducible rfl
  simp only [Act.put, List.setIfInBounds_toArray, List.set_cons_zero, List.set_cons_succ]
  refine wpR_val (v := ?_) ?_ ?_ (fun w1 hS hK => ?_) ?_
  rotate_left
  · rfl
  · rfl
  · clear hK hS
    go_simp
    with_reducible rfl
  simp only [Act.put, List.setIfInBounds_toArray, List.set_cons_zero, List.set_cons_succ]
  intro w5 E5 _
  go_wp2
  refine HNext.out _ _ (.slice A2 (tt ++ [(day, (i : Int))]).length c2) ⟨rfl, rfl, by repeat (first | exact trivial | refine ⟨rfl, ?_⟩)⟩ ⟨H3.out.ext E5, N3.out.ext E5, own_ext R3.out E5⟩
set_option maxRecDepth 100000 in
set_option maxHeartbeats 2000000 in
theorem inner_yes_f (Al : Option Addr) (cl : Nat) (Ae : Option Addr) (ce : Nat) (most days : Int) (evs : List Int) (Bs Bm Bf M : Nat) (hd : 0 ≤ days ∧ days ≤ 10) (N : Nat) (hN : evs.length = N) (hn : N ≤ 4) (hev : ∀ x ∈ evs, 0 ≤ x ∧ x ≤ 10) (ok : Nat → Prop) (w : World)
    (hx : PCtx (.slice Al evs.length cl) (.slice Ae evs.length ce) most days evs Bs Bm Bf M w) (day : Int) (hday : 0 ≤ day ∧ day ≤ 10) (set T L kk : Nat) (hset : set ≤ 16) (va : Value) (qs : List Raw) (u0 : List Int) (hu : Smalls u0) (mrest : List Value) (i : Nat) (hi : i < N) (hbit : set.testBit i = true) (vt : Value) (wi : World)
    (hR : InnR most days evs ok M w (.int .i64 day :: mrest) L kk va qs day set u0 i vt wi) (hbb : (innS days evs day set u0 i).2.2 = false) (x : Nat → Value) (Q : Exit → Act → World → Prop)
    (hnext : ∀ a' w' vt', HasF 119 (fixI Bs Bm Bf w.heap.size L T N set va Ae ce vt' (innS days evs day set u0 (i + 1)).2.2 (i + 1)) a' → InnR most days evs ok M w (.int .i64 day :: mrest) L kk va qs day set u0 (i + 1) vt' w' → Q .normal a' w') :
    (loopBody (blk Try.f81 2)).wp Try.prog Q (mkF 119 (fixI Bs Bm Bf w.heap.size L T N set va Ae ce vt false i) x) wi := by
  obtain ⟨hH, hNx, hRow⟩ := hR
  have hul := innS_len days evs day set u0 i
  have htl := innS_few days evs day set u0 i
  have hsm := innS_small days evs day set u0 hd hday hev hu i
  have hstep : innS days evs day set u0 (i + 1) = (if set.testBit i = true then
      ((innS days evs day set u0 i).1.set i (min days (max ((innS days evs day set u0 i).1.getD i 0) (day + evs.getD i 0))), (innS days evs day set u0 i).2.1 ++ [(day, (i : Int))], (innS days evs day set u0 i).2.2 && decide (day ≤ min days (max ((innS days evs day set u0 i).1.getD i 0) (day + evs.getD i 0))))
    else ((innS days evs day set u0 i).1, (innS days evs day set u0 i).2.1, (innS days evs day set u0 i).2.2 && decide (day ≤ (innS days evs day set u0 i).1.getD i 0))) := rfl
  rw [if_pos (by rw [hbit])] at hstep
  have hbt := bit_test set i (by omega)
  rw [hbit] at hbt
  unfold InnR at hnext
  rw [hstep] at hnext
  clear hstep hbit
  generalize innS days evs day set u0 i = pp at *
  obtain ⟨uu, tt, bb⟩ := pp
  dsimp only at hNx hRow hul htl hsm hbb hnext
  subst hbb
  have hu4 : uu.length = 4 := hul.trans hu.1
  have hMn := ne_map hH.mw hNx
  have hMr := ne_map_row hH.mw hRow
  have PX := hH.pctx hx
  have s3 := PX.seals.cell (j := 3) rfl
  have s4 := PX.seals.lt
  have b0 := hH.own4.cell (j := 0) rfl
  have bl := hH.own4.lt
  have hLw := hH.lo
  have n0 := hNx.cell (stCells_get (day + 1) uu i (by omega))
  have nl := hNx.lt
  have nf := hNx.frozen (i + 1)
  rw [Nat.add_comm i 1] at n0 nf
  obtain ⟨be, oe, hAe, hec⟩ := PX.every.at_ i (by omega)
  have e0 := hec 0 _ rfl
  have hevi := hev evs[i] (List.getElem_mem (by omega))
  have hgd : evs.getD i 0 = evs[i] := by rw [List.getD_eq_getElem?_getD]; simp [show i < evs.length by omega]
  have huf : Fits (uu.getD i 0) := hsm.2 _ (by rw [List.getD_eq_getElem?_getD, List.getElem?_eq_getElem (by omega)]; exact List.getElem_mem _)
  have hi4 : (i : Int) < 4 := by omega
  have hi40 : 0 ≤ (i : Int) := by omega
  subst hAe
  try rw [hgd] at hnext
  obtain ⟨At, ct, rfl⟩ := own_form hRow
  have HH := Lib.hid hH
  have HNx := Lib.hid hNx
  have HRow := Lib.hid hRow
  have HMn := Lib.hid hMn
  have HMr := Lib.hid hMr
  have HUl := Lib.hid hu4
  have HX := Lib.hid hx
  generalize evs[i] = ev at *
  generalize hui : uu.getD i 0 = ui at *
  have HUi := Lib.hid hui
  clear hui
  unfold Fits at huf
  clear hH hNx hRow hMn hMr hsm PX hx hec hgd hev hu hul hu4 hN
  simp only [Nat.add_zero, Nat.mul_one] at e0
  have HNext := Lib.hid hnext
  clear hnext
  show Code.wp Try.prog _ Q { tmps := #[x 0, .pointer (some ⟨Bs, 0, none⟩), .pointer (some ⟨Bm, 0, none⟩), .pointer (some ⟨Bf, 0, none⟩), .pointer (some ⟨w.heap.size, 0, none⟩), .pointer (some ⟨w.heap.size + 1, 0, none⟩), x 6, x 7, va, .int .i64 set, .pointer (some ⟨L, 0, none⟩), .slice At tt.length ct, .bool false, x 13, x 14, x 15, x 16, x 17, x 18, x 19, x 20, x 21, x 22, x 23, x 24, x 25, x 26, x 27, x 28, x 29, x 30, x 31, x 32, x 33, .int .i64 T, .int .i64 set, x 36, x 37, x 38, x 39, x 40, x 41, x 42, x 43, x 44, .slice (some ⟨be, oe, none⟩) N ce, .int .i64 N, .int .i64 i, x 48, x 49, x 50, x 51, x 52, x 53, x 54, x 55, x 56, x 57, x 58, x 59, x 60, x 61, x 62, x 63, x 64, x 65, x 66, x 67, x 68, x 69, x 70, x 71, x 72, x 73, x 74, x 75, x 76, x 77, x 78, x 79, x 80, x 81, x 82, x 83, x 84, x 85, x 86, x 87, x 88, x 89, x 90, x 91, x 92, x 93, x 94, x 95, x 96, x 97, x 98, x 99, x 100, x 101, x 102, x 103, x 104, x 105, x 106, x 107, x 108, x 109, x 110, x 111, x 112, x 113, x 114, x 115, x 116, x 117, x 118], defers := [] } wi
  conv => arg 2; whnf
  obtain ⟨ii, hi', hz0, hz1, hz2⟩ := info_parts infoTest
  have HI := Lib.hid (And.intro hi' (And.intro hz0 (And.intro hz1 hz2)))
  clear hi' hz0 hz1 hz2
  go_wp2_with (at_builtin; refine wpList_append_own _ rfl (.tmp 57) (.tmp 62) 62 rfl (L + 1) 100 ii (.agg #[.int .i64 0, .int .i64 0]) 2 16 Try.underlying62 HI.out.1 HI.out.2.1 HI.out.2.2.1 HI.out.2.2.2 rfl (by decide) _ _ _ rfl (own_ext HRow.out (Ext.alloc _ _)) ⟨wi.heap.size, 0, none⟩ 1 1 [.int .i64 day, .int .i64 i] rfl rfl ?c1 ?c2 ?c3 ?c4 ?c5 ?_)
  case c1 => exact cells_new wi [.int .i64 day, .int .i64 i] 100
  case c2 => intro u hu; simp at hu; rcases hu with rfl | rfl <;> rfl
  case c3 => unfold maxLen; omega
  case c4 => omega
  case c5 => have := HH.out.hi; simp; omega
  intro v2 w2 hown2 hgrow2 _
  have hown2' : w2.ownsRow (L + 1) 100 2 v2 (tt ++ [(day, (i : Int))]).length ((tt ++ [(day, (i : Int))]).flatMap encD) := by
    rw [List.flatMap_append, List.length_append]; exact hown2
  have h2 := (HH.out.ext (Ext.alloc wi (.cells [.int .i64 day, .int .i64 i].toArray 100))).new hgrow2 (fun r e => ⟨by have := (HRow.out.lt r e).1; omega, HMr.out r e⟩)
  have hn2 : OwnB w2 L 143 (stCells (day + 1) uu) := (hgrow2.block L (by have := HNx.out.lt; simp; omega) (fun e => by have := (HRow.out.lt L e.symm).1; omega)).trans (HNx.out.ext (Ext.alloc wi (.cells [.int .i64 day, .int .i64 i].toArray 100)))
  obtain ⟨A2, c2, rfl⟩ := own_form hown2'
  have PX2 := h2.pctx HX.out
  have q3 := PX2.seals.cell (j := 3) rfl
  have p0 := h2.own4.cell (j := 0) rfl
  have m0 := hn2.cell (stCells_get (day + 1) uu i (by have := HUl.out; omega))
  have mf := hn2.frozen (i + 1)
  have ml := hn2.lt
  rw [HUi.out, Nat.add_comm i 1] at m0
  rw [Nat.add_comm i 1] at mf
  have H2 := Lib.hid h2
  have N2 := Lib.hid hn2
  have R2 := Lib.hid hown2'
  have HW := Lib.hid (show IntKind.i64.wrap (day + ev) = day + ev by rw [IntKind.wrap_i64]; omega)
  clear h2 hn2 hown2 hown2' hgrow2 PX2 s3 s4 b0 n0 nf nl e0 bl
  go_wp2
  refine region_ext 15 [] (by kernel_rfl) (by kernel_rfl) trivial ?_
  simp only [List.take_succ_cons, List.take_zero, List.drop_succ_cons, List.drop_zero]
  refine wpR_val (v := ?_) ?_ ?_ (fun w1 hS hK => ?_) ?_
  rotate_left
  · rfl
  · rfl
  · clear hK hS
    go_simp
    with_reducible rfl
  simp only [Act.put, List.setIfInBounds_toArray, List.set_cons_zero, List.set_cons_succ]
  refine wpR_val (v := ?_) ?_ ?_ (fun w1 hS hK => ?_) ?_
  rotate_left
  · rfl
  · rfl
  · clear hK hS
    go_simp
    with_reducible rfl
  simp only [Act.put, List.setIfInBounds_toArray, List.set_cons_zero, List.set_cons_succ]
  refine wpR_val (v := ?_) ?_ ?_ (fun w1 hS hK => ?_) ?_
  rotate_left
  · rfl
  · rfl
  · have E1 := (Ext.refl _).trans hS
    have k0 := E1.cell q3
    have k1 := E1.cell p0
    have k2 := E1.cell m0
    clear hK hS E1
    go_simp
    with_reducible rfl
  simp only [Act.put, List.setIfInBounds_toArray, List.set_cons_zero, List.set_cons_succ]
  refine wpR_val (v := ?_) ?_ ?_ (fun w1 hS hK => ?_) ?_
  rotate_left
  · rfl
  · rfl
  · clear hK hS
    go_simp
    with_reducible rfl
  simp only [Act.put, List.setIfInBounds_toArray, List.set_cons_zero, List.set_cons_succ]
  refine wpR_val (v := ?_) ?_ ?_ (fun w1 hS hK => ?_) ?_
  rotate_left
  · rfl
  · rfl
  · clear hK hS
    go_simp
    with_reducible rfl
  simp only [Act.put, List.setIfInBounds_toArray, List.set_cons_zero, List.set_cons_succ]
  refine wpR_val (v := ?_) ?_ ?_ (fun w1 hS hK => ?_) ?_
  rotate_left
  · rfl
  · rfl
  · have E1 := (Ext.refl _).trans hS
    have k0 := E1.cell q3
    have k1 := E1.cell p0
    have k2 := E1.cell m0
    clear hK hS E1
    go_simp
    with_reducible rfl
  simp only [Act.put, List.setIfInBounds_toArray, List.set_cons_zero, List.set_cons_succ]
  refine wpR_val (v := ?_) ?_ ?_ (fun w1 hS hK => ?_) ?_
  rotate_left
  · rfl
  · rfl
  · have E1 := (Ext.refl _).trans hS
    have k0 := E1.cell q3
    have k1 := E1.cell p0
    have k2 := E1.cell m0
    clear hK hS E1
    go_simp
    with_reducible rfl
  simp only [Act.put, List.setIfInBounds_toArray, List.set_cons_zero, List.set_cons_succ]
  refine wpR_val (v := ?_) ?_ ?_ (fun w1 hS hK => ?_) ?_
  rotate_left
  · rfl
  · rfl
  · clear hK hS
    go_simp
    with_reducible rfl
  simp only [Act.put, List.setIfInBounds_toArray, List.set_cons_zero, List.set_cons_succ]
  refine wpR_val (v := ?_) ?_ ?_ (fun w1 hS hK => ?_) ?_
  rotate_left
  · rfl
  · rfl
  · have E1 := (Ext.refl _).trans hS
    have k0 := E1.cell q3
    have k1 := E1.cell p0
    have k2 := E1.cell m0
    clear hK hS E1
    go_simp
    with_reducible rfl
  simp only [Act.put, List.setIfInBounds_toArray, List.set_cons_zero, List.set_cons_succ]
  refine wpR_val (v := ?_) ?_ ?_ (fun w1 hS hK => ?_) ?_
  rotate_left
  · rfl
  · rfl
  · clear hK hS
    go_simp
    with_reducible rfl
  simp only [Act.put, List.setIfInBounds_toArray, List.set_cons_zero, List.set_cons_succ]
  refine wpR_val (v := ?_) ?_ ?_ (fun w1 hS hK => ?_) ?_
  rotate_left
  · rfl
  · rfl
  · clear hK hS
    have kw := HW.out
    go_simp
    with_reducible rfl
  simp only [Act.put, List.setIfInBounds_toArray, List.set_cons_zero, List.set_cons_succ]
  refine wpR_val (v := ?_) ?_ ?_ (fun w1 hS hK => ?_) ?_
  rotate_left
  · rfl
  · rfl
  · have E1 := (Ext.refl _).trans hS
    have k0 := E1.cell q3
    have k1 := E1.cell p0
    have k2 := E1.cell m0
    clear hK hS E1
    go_simp
    with_reducible rfl
  simp only [Act.put, List.setIfInBounds_toArray, List.set_cons_zero, List.set_cons_succ]
  refine wpR_val (v := ?_) ?_ ?_ (fun w1 hS hK => ?_) ?_
  rotate_left
  · rfl
  · rfl
  · have E1 := (Ext.refl _).trans hS
    have k0 := E1.cell q3
    have k1 := E1.cell p0
    have k2 := E1.cell m0
    clear hK hS E1
    go_simp
    with_reducible rfl
  simp only [Act.put, List.setIfInBounds_toArray, List.set_cons_zero, List.set_cons_succ]
  refine wpR_val (v := ?_) ?_ ?_ (fun w1 hS hK => ?_) ?_
  rotate_left
  · rfl
  · rfl
  · clear hK hS
    go_simp
    with_reducible rfl
  simp only [Act.put, List.setIfInBounds_toArray, List.set_cons_zero, List.set_cons_succ]
  refine wpR_val (v := ?_) ?_ ?_ (fun w1 hS hK => ?_) ?_
  rotate_left
  · rfl
  · rfl
  · have E1 := (Ext.refl _).trans hS
    have k0 := E1.cell q3
    have k1 := E1.cell p0
    have k2 := E1.cell m0
    clear hK hS E1
    go_simp
    with_reducible rfl
  simp only [Act.put, List.setIfInBounds_toArray, List.set_cons_zero, List.set_cons_succ]
  intro w3 E3 _
  have h3 := (H2.out.ext E3).new (grownBy_cell w3 L (1 + i) (.int .i64 (min days (max ui (day + ev))))) (fun r e => by cases e; exact ⟨Nat.le_refl _, HMn.out⟩)
  have hn3 := (N2.out.ext E3).set (i + 1) (.int .i64 (min days (max ui (day + ev))))
  rw [stCells_set] at hn3
  have r3 := own_ext R2.out E3
  have r3 := r3.kept (grownBy_cell w3 L (1 + i) (.int .i64 (min days (max ui (day + ev))))) (.inr (fun e => by have := (r3.lt L e).1; omega))
  have m3 := (N2.out.ext E3).cell (stCells_get (day + 1) uu i (by have := HUl.out; omega))
  have mf3 := (N2.out.ext E3).frozen (i + 1)
  have m4 := hn3.cell (stCells_get (day + 1) (uu.set i (min days (max ui (day + ev)))) i (by have := HUl.out; simp; omega))
  have p4 := h3.own4.cell (j := 0) rfl
  have hgs : (uu.set i (min days (max ui (day + ev)))).getD i 0 = min days (max ui (day + ev)) := by
    have := HUl.out
    rw [List.getD_eq_getElem?_getD]; simp [show i < uu.length by omega]
  rw [hgs] at m4
  rw [Nat.add_comm i 1] at m3 m4 mf3
  rw [Nat.add_comm i 1] at hn3
  have H3 := Lib.hid h3
  have N3 := Lib.hid hn3
  have R3 := Lib.hid r3
  clear h3 hn3 r3 q3 p0 m0 mf ml hgs
  go_wp2
  refine region_ext 11 [] (by kernel_rfl) (by kernel_rfl) trivial ?_
  simp only [List.take_succ_cons, List.take_zero, List.drop_succ_cons, List.drop_zero]
  refine wpR_val (v := ?_) ?_ ?_ (fun w1 hS hK => ?_) ?_
  rotate_left
  · rfl
  · rfl
  · clear hK hS
    go_simp
    with_reducible rfl
  simp only [Act.put, List.setIfInBounds_toArray, List.set_cons_zero, List.set_cons_succ]
  refine wpR_val (v := ?_) ?_ ?_ (fun w1 hS hK => ?_) ?_
  rotate_left
  · rfl
  · rfl
  · clear hK hS
    go_simp
    with_reducible rfl
  simp only [Act.put, List.setIfInBounds_toArray, List.set_cons_zero, List.set_cons_succ]
  refine wpR_skip (by first | rfl | simp [Region.wanted, yielded, *]) ?_
  simp only [Act.put, List.setIfInBounds_toArray, List.set_cons_zero, List.set_cons_succ]
  refine wpR_skip (by first | rfl | simp [Region.wanted, yielded, *]) ?_
  simp only [Act.put, List.setIfInBounds_toArray, List.set_cons_zero, List.set_cons_succ]
  refine wpR_skip (by first | rfl | simp [Region.wanted, yielded, *]) ?_
  simp only [Act.put, List.setIfInBounds_toArray, List.set_cons_zero, List.set_cons_succ]
  refine wpR_skip (by first | rfl | simp [Region.wanted, yielded, *]) ?_
  simp only [Act.put, List.setIfInBounds_toArray, List.set_cons_zero, List.set_cons_succ]
  refine wpR_skip (by first | rfl | simp [Region.wanted, yielded, *]) ?_
  simp only [Act.put, List.setIfInBounds_toArray, List.set_cons_zero, List.set_cons_succ]
  refine wpR_skip (by first | rfl | simp [Region.wanted, yielded, *]) ?_
  simp only [Act.put, List.setIfInBounds_toArray, List.set_cons_zero, List.set_cons_succ]
  refine wpR_skip (by first | rfl | simp [Region.wanted, yielded, *]) ?_
  simp only [Act.put, List.setIfInBounds_toArray, List.set_cons_zero, List.set_cons_succ]
  refine wpR_val (v := ?_) ?_ ?_ (fun w1 hS hK => ?_) ?_
  rotate_left
  · rfl
  · rfl
  · clear hK hS
    go_simp
    with_reducible rfl
  simp only [Act.put, List.setIfInBounds_toArray, List.set_cons_zero, List.set_cons_succ]
  refine wpR_val (v := ?_) ?_ ?_ (fun w1 hS hK => ?_) ?_
  rotate_left
  · rfl
  · rfl
  · clear hK hS
    go_simp
    with_reducible rfl
  simp only [Act.put, List.setIfInBounds_toArray, List.set_cons_zero, List.set_cons_succ]
  intro w5 E5 _
  go_wp2
  refine HNext.out _ _ (.slice A2 (tt ++ [(day, (i : Int))]).length c2) ⟨rfl, rfl, by repeat (first | exact trivial | refine ⟨rfl, ?_⟩)⟩ ⟨H3.out.ext E5, N3.out.ext E5, own_ext R3.out E5⟩
end Go.Proofs.Ytebfnjabgkhngaa
end
section
set_option linter.all false
set_option linter.unusedVariables false
set_option linter.unusedSimpArgs false
set_option linter.constructorNameAsVariable false
set_option linter.unusedVariables false
namespace Go.Proofs.Ytebfnjabgkhngaa
open Go.RowKit Go.RT
set_option maxRecDepth 100000 in
set_option maxHeartbeats 2000000 in
theorem inner_exit (Bs Bm Bf W L T N set : Nat) (va : Value) (Ae : Option Addr) (ce : Nat) (vt : Value) (sl : Bool) (x : Nat → Value) (wi : World) (hN : N ≤ 4) (Q : Exit → Act → World → Prop)
    (hexit : ∀ a', HasF 119 (fixI Bs Bm Bf W L T N set va Ae ce vt sl N) a' → Q (.exit 2) a' wi) :
    (loopBody (blk Try.f81 2)).wp Try.prog Q (mkF 119 (fixI Bs Bm Bf W L T N set va Ae ce vt sl N) x) wi := by
  have hlt : decide ((N : Int) < (N : Int)) = false := by simp
  have HE := Lib.hid hexit
  clear hexit
  show Code.wp Try.prog _ Q { tmps := #[x 0, .pointer (some ⟨Bs, 0, none⟩), .pointer (some ⟨Bm, 0, none⟩), .pointer (some ⟨Bf, 0, none⟩), .pointer (some ⟨W, 0, none⟩), .pointer (some ⟨W + 1, 0, none⟩), x 6, x 7, va, .int .i64 set, .pointer (some ⟨L, 0, none⟩), vt, .bool sl, x 13, x 14, x 15, x 16, x 17, x 18, x 19, x 20, x 21, x 22, x 23, x 24, x 25, x 26, x 27, x 28, x 29, x 30, x 31, x 32, x 33, .int .i64 T, .int .i64 set, x 36, x 37, x 38, x 39, x 40, x 41, x 42, x 43, x 44, .slice Ae N ce, .int .i64 N, .int .i64 N, x 48, x 49, x 50, x 51, x 52, x 53, x 54, x 55, x 56, x 57, x 58, x 59, x 60, x 61, x 62, x 63, x 64, x 65, x 66, x 67, x 68, x 69, x 70, x 71, x 72, x 73, x 74, x 75, x 76, x 77, x 78, x 79, x 80, x 81, x 82, x 83, x 84, x 85, x 86, x 87, x 88, x 89, x 90, x 91, x 92, x 93, x 94, x 95, x 96, x 97, x 98, x 99, x 100, x 101, x 102, x 103, x 104, x 105, x 106, x 107, x 108, x 109, x 110, x 111, x 112, x 113, x 114, x 115, x 116, x 117, x 118], defers := [] } wi
  conv => arg 2; whnf
  go_wp2
  exact HE.out _ ⟨rfl, rfl, by repeat (first | exact trivial | refine ⟨rfl, ?_⟩)⟩
theorem blk_loop : blk Try.f81 2 = .loop (loopBody (blk Try.f81 2)) := by kernel_rfl
theorem inner_any (Al : Option Addr) (cl : Nat) (Ae : Option Addr) (ce : Nat) (most days : Int) (evs : List Int) (Bs Bm Bf M : Nat) (hd : 0 ≤ days ∧ days ≤ 10) (N : Nat) (hN : evs.length = N) (hn : N ≤ 4) (hev : ∀ x ∈ evs, 0 ≤ x ∧ x ≤ 10) (ok : Nat → Prop) (w : World)
    (hx : PCtx (.slice Al evs.length cl) (.slice Ae evs.length ce) most days evs Bs Bm Bf M w) (day : Int) (hday : 0 ≤ day ∧ day ≤ 10) (set T L kk : Nat) (hset : set ≤ 16) (va : Value) (qs : List Raw) (u0 : List Int) (hu : Smalls u0) (mrest : List Value) (vt : Value) (wi : World)
    (hR : InnR most days evs ok M w (.int .i64 day :: mrest) L kk va qs day set u0 0 vt wi) (a : Act) (ha : HasF 119 (fixI Bs Bm Bf w.heap.size L T N set va Ae ce vt true 0) a) (Q : Exit → Act → World → Prop)
    (hdone : ∀ a' w' vt', HasF 119 (fixI Bs Bm Bf w.heap.size L T N set va Ae ce vt' (innS days evs day set u0 N).2.2 N) a' → InnR most days evs ok M w (.int .i64 day :: mrest) L kk va qs day set u0 N vt' w' → Q .normal a' w') :
    (Code.block 2 (blk Try.f81 2)).wp Try.prog Q a wi := by
  refine wp_block ?_
  rw [blk_loop]
  have h47 : ∀ vt sl q a', HasF 119 (fixI Bs Bm Bf w.heap.size L T N set va Ae ce vt sl q) a' → a'.tmps.getD 47 undef = .int .i64 q := fun vt sl q a' h => by
    have h1 : a'.tmps[47]? = some (.int .i64 q) := by
      have h3 := h.2.2
      simp only [fixI, HasAll] at h3
      exact h3.2.2.2.2.2.2.2.2.2.2.2.2.2.2.1
    rw [Array.getD_eq_getD_getElem?, h1]; rfl
  refine wp_loop (fun a w' => ∃ i vt, i ≤ N ∧ HasF 119 (fixI Bs Bm Bf w.heap.size L T N set va Ae ce vt (innS days evs day set u0 i).2.2 i) a ∧ InnR most days evs ok M w (.int .i64 day :: mrest) L kk va qs day set u0 i vt w') (fun a w' => N - (intOf (a.tmps.getD 47 undef)).toNat) ⟨0, vt, Nat.zero_le _, ha, hR⟩ ?_
  rintro a1 w1 ⟨i, vt1, hi, ha1, hR1⟩
  have hm := h47 _ _ _ _ ha1
  obtain ⟨x, rfl⟩ := ha1.lit
  by_cases hlt : i < N
  · have hnext : ∀ a' w' vt', HasF 119 (fixI Bs Bm Bf w.heap.size L T N set va Ae ce vt' (innS days evs day set u0 (i + 1)).2.2 (i + 1)) a' → InnR most days evs ok M w (.int .i64 day :: mrest) L kk va qs day set u0 (i + 1) vt' w' →
        Exit.then (fun a' w' => (∃ i vt, i ≤ N ∧ HasF 119 (fixI Bs Bm Bf w.heap.size L T N set va Ae ce vt (innS days evs day set u0 i).2.2 i) a' ∧ InnR most days evs ok M w (.int .i64 day :: mrest) L kk va qs day set u0 i vt w') ∧
          N - (intOf (a'.tmps.getD 47 undef)).toNat < N - (intOf ((mkF 119 (fixI Bs Bm Bf w.heap.size L T N set va Ae ce vt1 (innS days evs day set u0 i).2.2 i) x).tmps.getD 47 undef)).toNat) (Exit.inBlock 2 Q) .normal a' w' := fun a' w' vt' h1 h2 => by
      refine ⟨⟨i + 1, vt', by omega, h1, h2⟩, ?_⟩
      rw [h47 _ _ _ _ h1, hm]
      simp [intOf]
      omega
    cases hbit : set.testBit i <;> cases hbb : (innS days evs day set u0 i).2.2
    · rw [hbb] at hnext
      exact inner_no_f Al cl Ae ce most days evs Bs Bm Bf M hd N hN hn hev ok w hx day hday set T L kk hset va qs u0 hu mrest i hlt hbit vt1 w1 hR1 hbb x _ hnext
    · rw [hbb] at hnext
      exact inner_no_t Al cl Ae ce most days evs Bs Bm Bf M hd N hN hn hev ok w hx day hday set T L kk hset va qs u0 hu mrest i hlt hbit vt1 w1 hR1 hbb x _ hnext
    · rw [hbb] at hnext
      exact inner_yes_f Al cl Ae ce most days evs Bs Bm Bf M hd N hN hn hev ok w hx day hday set T L kk hset va qs u0 hu mrest i hlt hbit vt1 w1 hR1 hbb x _ hnext
    · rw [hbb] at hnext
      exact inner_yes_t Al cl Ae ce most days evs Bs Bm Bf M hd N hN hn hev ok w hx day hday set T L kk hset va qs u0 hu mrest i hlt hbit vt1 w1 hR1 hbb x _ hnext
  · obtain rfl : i = N := by omega
    exact inner_exit Bs Bm Bf w.heap.size L T i set va Ae ce vt1 _ x w1 hn _ (fun a' h => hdone a' w1 vt1 h hR1)
end Go.Proofs.Ytebfnjabgkhngaa
end
