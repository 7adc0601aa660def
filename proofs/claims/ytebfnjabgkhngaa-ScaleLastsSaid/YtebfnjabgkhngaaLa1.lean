/-
The statement ScaleLasts: proved for every input. Part 1 of 11.
-/
import Derived.Barred
import Derived.Below
import Derived.BigQuiet
import Derived.Deep.QuietTactic
import Derived.Lib.Hide
import Derived.OrdersIn
import Derived.StillTail
import Derived.TacticsIn
import Derived.Test.YtebfnjabgkhngaaProg
import Derived.WalkKit
import Derived.WalkLawsBesides
import Derived.WalkSpells
section
set_option linter.unusedVariables false
namespace Go.RT
open Go.RowKit
structure Sp where
  rng : Value → Prop
  ne : ∃ v, rng v
  fact : Array Value → Value → World → Prop
def opvals (o : Oper) (a : Act) : Array Value := o.op.operands.map a.eval
section
variable (P : Program) (ops : Array Oper) (sp : Nat → Option Sp) (Eff : Nat → World → World → Prop) (S : World → Prop) (bef : Nat → Nat → Bool)
def Known (i : Nat) : List (Nat × (World → Prop)) → World → Prop
  | [], _ => True
  | (j, F) :: l, w => (bef i j = true → F w) ∧ Known i l w
def AllOf : List (Nat × (World → Prop)) → World → Prop
  | [], _ => True
  | (_, F) :: l, w => F w ∧ AllOf l w
def NoPanic (Q : Exit → Act → World → Prop) : Exit → Act → World → Prop
  | .panic _, _, _ => False
  | e, a, w => Q e a w
def Exact (k : Nat) (o : Oper) (a : Act) (w : World) (v : Value) : Prop :=
  (execOp a.eval o).run P w = .ok (.value v) w ∨
  ∃ f args, (execOp a.eval o).run P w = .ok (.enter f args) w ∧ P.inits.idxOf? f = none ∧ Calls P f args w fun e w' => e = .returned v ∧ Eff k w w'
def Made (Q : Exit → Act → World → Prop) (k : Nat) (s : Sp) (o : Oper) (a : Act) (w : World) : Prop :=
  o.wp P a w (fun a' w' => ∃ v, a' = a.put o.dst v ∧ s.rng v ∧ s.fact (opvals o a) v w' ∧ Eff k w w') (NoPanic Q)
def wpR (Q : Exit → Act → World → Prop) (Fin : List (Nat × (World → Prop)) → Act → Prop) : List Oper → Nat → List (Nat × (World → Prop)) → Act → Prop
  | [], _, led, a => Fin led a
  | o :: l, k, led, a =>
    (Region.wanted o (yielded ops a.tmps) = true ∧
      match sp k with
      | none => ∃ v, (∀ w, S w → Known bef k led w → Exact P Eff k o a w v) ∧ wpR Q Fin l (k + 1) led (a.put o.dst v)
      | some s => (∀ w, S w → Known bef k led w → Made P Eff Q k s o a w) ∧ ∀ v, s.rng v → wpR Q Fin l (k + 1) ((k, s.fact (opvals o a) v) :: led) (a.put o.dst v)) ∨
    (Region.wanted o (yielded ops a.tmps) = false ∧ wpR Q Fin l (k + 1) led (a.put o.dst undef))
end
def mk (r : Nat → Value) (L : Nat → Bool) : List Oper → Nat → Act → Act
  | [], _, a => a
  | o :: l, k, a => mk r L l (k + 1) (if L k then a.put o.dst (r k) else a)
theorem put_size (a : Act) (d : Option Tmp) (v : Value) : (a.put d v).tmps.size = a.tmps.size := by cases d <;> simp [Act.put]
theorem put_get (a : Act) (d : Option Tmp) (v : Value) (t : Tmp) : (a.put d v).tmps[t]? = if d = some t then (if t < a.tmps.size then some v else none) else a.tmps[t]? := by
  cases d with
  | none => simp [Act.put]
  | some d =>
    simp only [Act.put, Option.some.injEq]
    by_cases h : d = t
    · subst h
      by_cases h2 : d < a.tmps.size
      · simp [h2]
      · simp [h2]
    · rw [if_neg h, Array.getElem?_setIfInBounds_ne h]
theorem mk_size (r : Nat → Value) (L : Nat → Bool) : ∀ (l : List Oper) (k : Nat) (a : Act), (mk r L l k a).tmps.size = a.tmps.size
  | [], _, _ => rfl
  | o :: l, k, a => by
    simp only [mk]
    rw [mk_size r L l]
    split
    · exact put_size _ _ _
    · rfl
theorem mk_get (r r' : Nat → Value) (L L' : Nat → Bool) (t : Tmp) : ∀ (l : List Oper) (k : Nat) (a a' : Act),
    (∀ j o, l[j]? = some o → o.dst = some t → L (k + j) = L' (k + j) ∧ (L (k + j) = true → r (k + j) = r' (k + j))) →
    a.tmps.size = a'.tmps.size → a.tmps[t]? = a'.tmps[t]? → (mk r L l k a).tmps[t]? = (mk r' L' l k a').tmps[t]?
  | [], _, _, _, _, _, h => h
  | o :: l, k, a, a', hl, hs, ht => by
    simp only [mk]
    refine mk_get r r' L L' t l (k + 1) _ _ (fun j o' hj hd => ?_) ?_ ?_
    · have := hl (j + 1) o' (by simpa using hj) hd
      rw [show k + 1 + j = k + (j + 1) by omega]
      exact this
    · split <;> split <;> simp [put_size, hs]
    · by_cases hd : o.dst = some t
      · obtain ⟨h1, h2⟩ := hl 0 o (by simp) hd
        simp only [Nat.add_zero] at h1 h2
        rw [← h1]
        by_cases hL : L k = true
        · rw [if_pos hL, if_pos hL, put_get, put_get, if_pos hd, if_pos hd, h2 hL, hs]
        · rw [if_neg hL, if_neg hL]; exact ht
      · have e : ∀ (b : Bool) (v : Value) (x : Act), (if b = true then x.put o.dst v else x).tmps[t]? = x.tmps[t]? := by
          intro b v x
          split
          · rw [put_get, if_neg hd]
          · rfl
        rw [e, e]; exact ht
theorem mk_defers (r : Nat → Value) (L : Nat → Bool) : ∀ (l : List Oper) (k : Nat) (a : Act), (mk r L l k a).defers = a.defers
  | [], _, _ => rfl
  | o :: l, k, a => by
    simp only [mk]
    rw [mk_defers r L l]
    split
    · cases o.dst <;> rfl
    · rfl
theorem act_ext {a b : Act} (hd : a.defers = b.defers) (hs : a.tmps.size = b.tmps.size) (ht : ∀ t : Nat, a.tmps[t]? = b.tmps[t]?) : a = b := by
  cases a; cases b
  simp only [Act.mk.injEq] at *
  exact ⟨Array.ext_getElem? ht, hd⟩
theorem mk_append (r : Nat → Value) (L : Nat → Bool) : ∀ (l l' : List Oper) (k : Nat) (a : Act), mk r L (l ++ l') k a = mk r L l' (k + l.length) (mk r L l k a)
  | [], l', k, a => by simp [mk]
  | o :: l, l', k, a => by
    simp only [List.cons_append, mk, mk_append r L l l', List.length_cons]
    rw [show k + 1 + l.length = k + (l.length + 1) by omega]
theorem mk_false (r : Nat → Value) (L : Nat → Bool) : ∀ (l : List Oper) (k : Nat) (a : Act), (∀ j, k ≤ j → L j = false) → mk r L l k a = a
  | [], _, _, _ => rfl
  | o :: l, k, a, h => by
    simp only [mk, h k (Nat.le_refl _), Bool.false_eq_true, if_false]
    exact mk_false r L l (k + 1) a fun j hj => h j (by omega)
theorem mk_congr (r r' : Nat → Value) (L L' : Nat → Bool) : ∀ (l : List Oper) (k : Nat) (a : Act), (∀ j, k ≤ j → j < k + l.length → L j = L' j ∧ (L j = true → r j = r' j)) → mk r L l k a = mk r' L' l k a
  | [], _, _, _ => rfl
  | o :: l, k, a, h => by
    simp only [mk]
    have h0 := h k (Nat.le_refl _) (by simp)
    have e : (if L k = true then a.put o.dst (r k) else a) = (if L' k = true then a.put o.dst (r' k) else a) := by
      rw [← h0.1]
      by_cases hL : L k = true
      · rw [if_pos hL, if_pos hL, h0.2 hL]
      · rw [if_neg hL, if_neg hL]
    rw [e]
    exact mk_congr r r' L L' l (k + 1) _ fun j hj hj' => h j (by omega) (by simp only [List.length_cons]; omega)
def A (vals : Nat → Value) (head : List Oper) (a0 : Act) (i : Nat) : Act := mk vals (fun j => decide (j < i)) head 0 a0
theorem A_congr {vals vals' : Nat → Value} {head : List Oper} {a0 : Act} {i : Nat} (h : ∀ j, j < i → vals j = vals' j) : A vals head a0 i = A vals' head a0 i :=
  mk_congr _ _ _ _ _ _ _ fun j _ _ => ⟨rfl, fun hj => h j (by simpa using hj)⟩
theorem A_zero (vals : Nat → Value) (head : List Oper) (a0 : Act) : A vals head a0 0 = a0 := mk_false _ _ _ _ _ fun j _ => by simp
theorem A_succ (vals : Nat → Value) {head pre l : List Oper} {o : Oper} (a0 : Act) (hh : head = pre ++ o :: l) :
    A vals head a0 (pre.length + 1) = (A vals head a0 pre.length).put o.dst (vals pre.length) := by
  subst hh
  unfold A
  rw [mk_append, mk_append]
  simp only [Nat.zero_add, mk]
  rw [mk_false vals _ l _ _ (fun j hj => by simp; omega), mk_false vals _ l _ _ (fun j hj => by simp; omega)]
  rw [if_pos (by simp), if_neg (by simp)]
  exact congrArg (fun x : Act => x.put o.dst (vals pre.length)) (mk_congr _ _ _ _ _ _ _ fun j _ hj => ⟨by simp only [Nat.zero_add] at hj; simp; omega, fun _ => rfl⟩)
section
variable (P : Program) (ops : Array Oper) (sp : Nat → Option Sp) (Eff : Nat → World → World → Prop) (S : World → Prop) (bef : Nat → Nat → Bool) (Q : Exit → Act → World → Prop) (head : List Oper) (a0 : Act)
def KnownI (vals : Nat → Value) (i : Nat) (w : World) : Prop :=
  ∀ j, j < i → bef i j = true → ∀ o s, head[j]? = some o → sp j = some s → Region.wanted o (yielded ops (A vals head a0 j).tmps) = true →
    s.fact (opvals o (A vals head a0 j)) (vals j) w
def Obl (u vals : Nat → Value) (i : Nat) : Prop :=
  ∀ o, head[i]? = some o →
    (Region.wanted o (yielded ops (A vals head a0 i).tmps) = true ∧
      match sp i with
      | none => ∀ w, S w → KnownI ops sp bef head a0 vals i w → Exact P Eff i o (A vals head a0 i) w (vals i)
      | some s => vals i = u i ∧ ∀ w, S w → KnownI ops sp bef head a0 vals i w → Made P Eff Q i s o (A vals head a0 i) w) ∨
    (Region.wanted o (yielded ops (A vals head a0 i).tmps) = false ∧ vals i = undef)
def LedOk (vals : Nat → Value) (k : Nat) (led : List (Nat × (World → Prop))) : Prop :=
  ∀ x ∈ led, ∃ j o s, j < k ∧ head[j]? = some o ∧ sp j = some s ∧ Region.wanted o (yielded ops (A vals head a0 j).tmps) = true ∧ x = (j, s.fact (opvals o (A vals head a0 j)) (vals j))
def Facts (vals : Nat → Value) (n : Nat) (w : World) : Prop :=
  ∀ j, j < n → ∀ o s, head[j]? = some o → sp j = some s → Region.wanted o (yielded ops (A vals head a0 j).tmps) = true → s.fact (opvals o (A vals head a0 j)) (vals j) w
end
section
variable {P : Program} {ops : Array Oper} {sp : Nat → Option Sp} {Eff : Nat → World → World → Prop} {S : World → Prop} {bef : Nat → Nat → Bool} {Q : Exit → Act → World → Prop} {head : List Oper} {a0 : Act}
theorem known_of {vals : Nat → Value} {k i : Nat} {w : World} (hk : k ≤ i) : ∀ (led : List (Nat × (World → Prop))), LedOk ops sp head a0 vals k led → KnownI ops sp bef head a0 vals i w → Known bef i led w
  | [], _, _ => trivial
  | x :: led, hl, h => by
    obtain ⟨j, o, s, hj, ho, hs, hw, rfl⟩ := hl x (by simp)
    exact ⟨fun hb => h j (by omega) hb o s ho hs hw, known_of hk led (fun y hy => hl y (by simp [hy])) h⟩
theorem all_of {vals : Nat → Value} {k n : Nat} {w : World} (hk : k ≤ n) : ∀ (led : List (Nat × (World → Prop))), LedOk ops sp head a0 vals k led → Facts ops sp head a0 vals n w → AllOf led w
  | [], _, _ => trivial
  | x :: led, hl, h => by
    obtain ⟨j, o, s, hj, ho, hs, hw, rfl⟩ := hl x (by simp)
    exact ⟨h j (by omega) o s ho hs hw, all_of hk led (fun y hy => hl y (by simp [hy])) h⟩
theorem LedOk.congr {vals vals' : Nat → Value} {k : Nat} {led : List (Nat × (World → Prop))} (h : LedOk ops sp head a0 vals k led) (he : ∀ j, j < k → vals j = vals' j) : LedOk ops sp head a0 vals' k led := by
  intro x hx
  obtain ⟨j, o, s, hj, ho, hs, hw, e⟩ := h x hx
  have hA : A vals head a0 j = A vals' head a0 j := A_congr fun i hi => he i (by omega)
  exact ⟨j, o, s, hj, ho, hs, by rw [← hA]; exact hw, by rw [← hA, ← he j hj]; exact e⟩
theorem path {Fin : List (Nat × (World → Prop)) → Act → Prop} (u : Nat → Value) (hu : ∀ j s, sp j = some s → s.rng (u j)) :
    ∀ (l pre : List Oper) (led : List (Nat × (World → Prop))) (vals0 : Nat → Value), head = pre ++ l → LedOk ops sp head a0 vals0 pre.length led →
      wpR P ops sp Eff S bef Q Fin l pre.length led (A vals0 head a0 pre.length) →
      ∃ vals led', (∀ j, j < pre.length → vals j = vals0 j) ∧ (∀ i, pre.length ≤ i → Obl P ops sp Eff S bef Q head a0 u vals i) ∧
        LedOk ops sp head a0 vals head.length led' ∧ Fin led' (A vals head a0 head.length)
  | [], pre, led, vals0, hh, hl, h => by
    have hp : pre = head := by simp [hh]
    subst hp
    refine ⟨vals0, led, fun _ _ => rfl, fun i hi o ho => ?_, hl, h⟩
    rw [List.getElem?_eq_none (by omega)] at ho
    cases ho
  | o :: l, pre, led, vals0, hh, hl, h => by
    have hk : head[pre.length]? = some o := by simp [hh]
    have hh' : head = (pre ++ [o]) ++ l := by simp [hh]
    have hlen : (pre ++ [o]).length = pre.length + 1 := by simp
    have step : ∀ (v : Value) (led2 : List (Nat × (World → Prop))), (∀ vals : Nat → Value, (∀ j, j < pre.length → vals j = vals0 j) → vals pre.length = v → LedOk ops sp head a0 vals (pre.length + 1) led2) →
        wpR P ops sp Eff S bef Q Fin l (pre.length + 1) led2 ((A vals0 head a0 pre.length).put o.dst v) →
        (∀ vals : Nat → Value, (∀ j, j < pre.length → vals j = vals0 j) → vals pre.length = v → Obl P ops sp Eff S bef Q head a0 u vals pre.length) →
        ∃ vals led', (∀ j, j < pre.length → vals j = vals0 j) ∧ (∀ i, pre.length ≤ i → Obl P ops sp Eff S bef Q head a0 u vals i) ∧
          LedOk ops sp head a0 vals head.length led' ∧ Fin led' (A vals head a0 head.length) := by
      intro v led2 hl2 hw hobl
      let vals1 : Nat → Value := fun j => if j = pre.length then v else vals0 j
      have e1 : ∀ j, j < pre.length → vals1 j = vals0 j := fun j hj => if_neg (by omega)
      have e2 : vals1 pre.length = v := if_pos rfl
      have hA : A vals1 head a0 (pre.length + 1) = (A vals0 head a0 pre.length).put o.dst v := by
        rw [A_succ vals1 a0 hh, e2, A_congr (vals := vals1) (vals' := vals0) e1]
      have hw' : wpR P ops sp Eff S bef Q Fin l (pre ++ [o]).length led2 (A vals1 head a0 (pre ++ [o]).length) := by
        rw [hlen, hA]; exact hw
      obtain ⟨vals, led', he, hO, hL, hF⟩ := path u hu l (pre ++ [o]) led2 vals1 hh' (by rw [hlen]; exact hl2 vals1 e1 e2) hw'
      rw [hlen] at he hO
      have he' : ∀ j, j < pre.length → vals j = vals0 j := fun j hj => (he j (by omega)).trans (e1 j hj)
      refine ⟨vals, led', he', fun i hi => ?_, hL, hF⟩
      rcases Nat.eq_or_lt_of_le hi with rfl | hlt
      · exact hobl vals he' ((he _ (by omega)).trans e2)
      · exact hO i (by omega)
    simp only [wpR] at h
    rcases h with ⟨hwant, h⟩ | ⟨hwant, h⟩
    · cases hs : sp pre.length with
      | none =>
        simp only [hs] at h
        obtain ⟨v, hex, hw⟩ := h
        refine step v led (fun vals he _ => ?_) hw (fun vals he hv o' ho' => .inl ?_)
        · intro x hx
          obtain ⟨j, o', s, hj, r⟩ := (hl.congr fun j hj => (he j hj).symm) x hx
          exact ⟨j, o', s, by omega, r⟩
        · have : o' = o := Option.some.inj (ho'.symm.trans hk)
          subst this
          have hA : A vals head a0 pre.length = A vals0 head a0 pre.length := A_congr he
          refine ⟨by rw [hA]; exact hwant, ?_⟩
          simp only [hs]
          intro w hS hK
          rw [hA, hv]
          exact hex w hS (known_of (Nat.le_refl _) led hl fun j hj hb o2 s2 ho2 hs2 hw2 => by
            have e : A vals head a0 j = A vals0 head a0 j := A_congr fun i hi => he i (by omega)
            have := hK j hj hb o2 s2 ho2 hs2 (by rw [e]; exact hw2)
            rwa [e, he j hj] at this)
      | some s =>
        simp only [hs] at h
        obtain ⟨hex, hw⟩ := h
        refine step (u pre.length) _ (fun vals he hv => ?_) (hw (u pre.length) (hu _ s hs)) (fun vals he hv o' ho' => .inl ?_)
        · have hA : A vals head a0 pre.length = A vals0 head a0 pre.length := A_congr he
          intro x hx
          rcases List.mem_cons.1 hx with rfl | hx
          · exact ⟨pre.length, o, s, by omega, hk, hs, by rw [hA]; exact hwant, by rw [hA, hv]⟩
          · obtain ⟨j, o', s', hj, r⟩ := (hl.congr fun j hj => (he j hj).symm) x hx
            exact ⟨j, o', s', by omega, r⟩
        · have : o' = o := Option.some.inj (ho'.symm.trans hk)
          subst this
          have hA : A vals head a0 pre.length = A vals0 head a0 pre.length := A_congr he
          refine ⟨by rw [hA]; exact hwant, ?_⟩
          simp only [hs]
          refine ⟨hv, fun w hS hK => ?_⟩
          rw [hA]
          exact hex w hS (known_of (Nat.le_refl _) led hl fun j hj hb o2 s2 ho2 hs2 hw2 => by
            have e : A vals head a0 j = A vals0 head a0 j := A_congr fun i hi => he i (by omega)
            have := hK j hj hb o2 s2 ho2 hs2 (by rw [e]; exact hw2)
            rwa [e, he j hj] at this)
    · refine step undef led (fun vals he _ => ?_) h (fun vals he hv o' ho' => .inr ?_)
      · intro x hx
        obtain ⟨j, o', s, hj, r⟩ := (hl.congr fun j hj => (he j hj).symm) x hx
        exact ⟨j, o', s, by omega, r⟩
      · have : o' = o := Option.some.inj (ho'.symm.trans hk)
        subst this
        have hA : A vals head a0 pre.length = A vals0 head a0 pre.length := A_congr he
        exact ⟨by rw [hA]; exact hwant, hv⟩
end
def checkB (ops : Array Oper) (n : Nat) (B : Array Nat) : Bool :=
  Region.noSelect ops && (List.range n).all fun i => match ops[i]? with
    | none => false
    | some o =>
      o.after.all (fun e => !Region.binds .any e || decide (e.on < i)) &&
      (List.range n).all fun j =>
        (!(B.getD i 0).testBit j || o.after.any fun e => Region.binds .any e && (e.on == j || (B.getD e.on 0).testBit j)) &&
        (!decide (j < i) || (B.getD i 0).testBit j || (match ops[j]? with | some oj => oj.apart ops o | none => false))
structure Check (ops : Array Oper) (n : Nat) (bef : Nat → Nat → Bool) : Prop where
  sel : Region.noSelect ops = true
  lt : ∀ i o, i < n → ops[i]? = some o → ∀ e ∈ o.after, Region.binds .any e = true → e.on < i
  ok : ∀ i o j, i < n → j < n → ops[i]? = some o → bef i j = true → ∃ e ∈ o.after, Region.binds .any e = true ∧ (e.on = j ∨ bef e.on j = true)
  ap : ∀ i j oi oj, i < n → j < i → ops[i]? = some oi → ops[j]? = some oj → bef i j = true ∨ oj.apart ops oi = true
theorem check_of {ops : Array Oper} {n : Nat} {B : Array Nat} (h : checkB ops n B = true) : Check ops n (fun i j => (B.getD i 0).testBit j) := by
  simp only [checkB, Bool.and_eq_true, List.all_eq_true, List.mem_range] at h
  obtain ⟨hs, h⟩ := h
  refine ⟨hs, fun i o hi ho e he hb => ?_, fun i o j hi hj ho hb => ?_, fun i j oi oj hi hj hoi hoj => ?_⟩
  · have := h i hi
    simp only [ho, Bool.and_eq_true, Array.all_eq_true_iff_forall_mem] at this
    have h2 := this.1 e he
    simpa [hb] using h2
  · have := h i hi
    simp only [ho, Bool.and_eq_true] at this
    have h2 := (List.all_eq_true.1 this.2 j (List.mem_range.2 hj))
    simp only [Bool.and_eq_true, Bool.or_eq_true, Bool.not_eq_true'] at h2
    rcases h2.1 with h3 | h3
    · rw [h3] at hb; cases hb
    · obtain ⟨e, he, h4⟩ := Array.any_eq_true'.1 h3
      simp only [Bool.and_eq_true, Bool.or_eq_true, beq_iff_eq] at h4
      exact ⟨e, he, h4.1, h4.2⟩
  · have := h i hi
    simp only [hoi, Bool.and_eq_true] at this
    have h2 := (List.all_eq_true.1 this.2 j (List.mem_range.2 (by omega)))
    simp only [Bool.and_eq_true, Bool.or_eq_true, Bool.not_eq_true', decide_eq_false_iff_not, hoj] at h2
    rcases h2.2 with (h3 | h3) | h3
    · exact absurd hj h3
    · exact .inl h3
    · exact .inr h3
theorem exact_det {P : Program} {Eff : Nat → World → World → Prop} {k : Nat} {o : Oper} {a : Act} {w : World} {v v' : Value}
    (h : Exact P Eff k o a w v) (h' : Exact P Eff k o a w v') : v = v' := by
  rcases h with h | ⟨f, args, h, hi, hc⟩ <;> rcases h' with h' | ⟨f', args', h', hi', hc'⟩
  · rw [h] at h'
    simpa using h'
  · rw [h] at h'; simp at h'
  · rw [h] at h'; simp at h'
  · rw [h] at h'
    simp only [Result.ok.injEq, Next.enter.injEq, and_true] at h'
    obtain ⟨rfl, rfl⟩ := h'
    obtain ⟨n, x, w1, hr, hx⟩ := Calls.done (R := fun x _ => x = v) (hc.mono fun e w' he => by
      obtain ⟨rfl, _⟩ := he
      rfl) hi
    obtain ⟨n', x', w1', hr', hx'⟩ := Calls.done (R := fun x _ => x = v') (hc'.mono fun e w' he => by
      obtain ⟨rfl, _⟩ := he
      rfl) hi
    have := runN_same_end hr hr'
    simp only [Outcome.done.injEq] at this
    rw [← hx, ← hx', this]
theorem same_looks {ops : Array Oper} {o : Oper} {a a' : Act} (hs : ∀ cs b, o.op ≠ .select cs b) (h : ∀ t ∈ o.looksAt ops, a.tmps[t]? = a'.tmps[t]?) :
    execOp a.eval o = execOp a'.eval o ∧ Region.wanted o (yielded ops a.tmps) = Region.wanted o (yielded ops a'.tmps) ∧ opvals o a = opvals o a' := by
  have he : ∀ x ∈ o.op.operands, a.eval x = a'.eval x := fun x hx => by
    cases x with
    | tmp t =>
      have := h t (List.mem_append_left _ (List.mem_filterMap.2 ⟨.tmp t, by simpa using hx, rfl⟩))
      simp only [Act.eval, Array.getD_eq_getD_getElem?, this]
    | _ => rfl
  refine ⟨execOp_congr o hs he, ?_, Array.map_congr_left he⟩
  unfold Region.wanted
  cases hg : o.guard with
  | none => rfl
  | some gw =>
    obtain ⟨g, want⟩ := gw
    have hy : yielded ops a.tmps g = yielded ops a'.tmps g := by
      unfold yielded
      cases ht : (ops[g]?).bind (·.dst) with
      | none => rfl
      | some t =>
        have := h t (by simp [Oper.looksAt, hg, ht])
        simp only [Option.bind_some, this]
    simp only [hy]
theorem wp_change {P : Program} {Q Q' : Exit → Act → World → Prop} {o : Oper} {a : Act} {w : World} {K K' : Act → World → Prop}
    (hK : ∀ a w, K a w → K' a w) (hQ : ∀ e a w, Q e a w → Q' e a w) (h : o.wp P a w K Q) : o.wp P a w K' Q' := by
  unfold Oper.wp at *
  generalize (execOp a.eval o).run P w = r at *
  have hL : LetsOut Q → LetsOut Q' := fun ⟨a, w, h⟩ => ⟨a, w, hQ _ _ _ h⟩
  cases r with
  | ok n w' =>
    cases n <;> simp only [Oper.upon] at h ⊢ <;>
      first
        | exact hK _ _ h
        | exact Calls.mono h (fun e w'' he => by cases e <;> first | exact hK _ _ he | exact hQ _ _ _ he | exact hL he)
        | exact Rows.mono h (fun _ _ he => hK _ _ he)
  | halt x w' =>
    cases x <;> simp only [Oper.upon] at h ⊢
    exact hQ _ _ _ h
theorem put_same {a a' : Act} {d : Option Tmp} {v v' : Value} (hs : a.tmps.size = a'.tmps.size) (h : a.put d v = a.put d v') : a'.put d v = a'.put d v' := by
  cases d with
  | none => rfl
  | some d =>
    by_cases hlt : d < a.tmps.size
    · have h1 := congrArg (fun x : Act => x.tmps[d]?) h
      simp only [put_get, hlt, if_pos] at h1
      simp only [Option.some.injEq] at h1
      rw [h1]
    · have hlt' : ¬ d < a'.tmps.size := hs ▸ hlt
      have e : ∀ v, a'.put (some d) v = a' := fun v => act_ext rfl (put_size _ _ _) fun t => by
        rw [put_get]
        by_cases ht : some d = some t
        · rw [if_pos ht]
          simp only [Option.some.injEq] at ht
          subst ht
          rw [if_neg hlt', Array.getElem?_eq_none (Nat.le_of_not_lt hlt')]
        · rw [if_neg ht]
      rw [e, e]
theorem made_at {P : Program} {Q : Exit → Act → World → Prop} {o : Oper} {a a' : Act} {w : World} {s : Sp} {k : Nat} {Eff : Nat → World → World → Prop}
    (he : execOp a.eval o = execOp a'.eval o) (hs : a.tmps.size = a'.tmps.size) (hd : a.defers = a'.defers) (ho : opvals o a = opvals o a') (h : Made P Eff Q k s o a w) :
    o.wp P a' w (fun b w' => ∃ v, b = a'.put o.dst v ∧ s.rng v ∧ s.fact (opvals o a') v w' ∧ Eff k w w') (NoPanic Q) := by
  unfold Made at h
  rw [← ho]
  unfold Oper.wp at *
  rw [he] at h
  generalize (execOp a'.eval o).run P w = r at *
  have put : ∀ v w', (∃ v', a.put o.dst v = a.put o.dst v' ∧ s.rng v' ∧ s.fact (opvals o a) v' w' ∧ Eff k w w') → ∃ v', a'.put o.dst v = a'.put o.dst v' ∧ s.rng v' ∧ s.fact (opvals o a) v' w' ∧ Eff k w w' :=
    fun v w' ⟨v', h1, h2⟩ => ⟨v', put_same hs h1, h2⟩
  cases r with
  | ok n w' =>
    cases n <;> simp only [Oper.upon] at h ⊢
    case value v => exact put _ _ h
    case skip => exact put _ _ h
    case defer d =>
      obtain ⟨v', h1, _⟩ := h
      have h2 := congrArg Act.defers h1
      have e1 : ∀ (x : Act) v, (x.put o.dst v).defers = x.defers := fun x v => by cases o.dst <;> rfl
      rw [e1, e1] at h2
      exact absurd (congrArg List.length h2) (by simp)
    case enter f args =>
      refine Calls.mono h fun e w'' hx => ?_
      cases e with
      | returned v => exact put _ _ hx
      | panicked c => exact (hx : False).elim
      | outgrown => exact hx
    case row row args => exact Rows.mono h fun v w'' hx => put _ _ hx
  | halt x w' =>
    cases x <;> simp only [Oper.upon] at h ⊢
    exact (h : False).elim
theorem noPanic_imp {Q : Exit → Act → World → Prop} : ∀ (e : Exit) (a : Act) (w : World), NoPanic Q e a w → Q e a w := fun e a w h => by
  cases e <;> first | exact h | exact (h : False).elim
theorem mk_last (r : Nat → Value) (L : Nat → Bool) (pre l : List Oper) (o : Oper) (a : Act) (t : Tmp) (hd : o.dst = some t) (hL : L pre.length = true)
    (hl : ∀ j o', l[j]? = some o' → o'.dst = some t → L (pre.length + 1 + j) = false) :
    (mk r L (pre ++ o :: l) 0 a).tmps[t]? = if t < a.tmps.size then some (r pre.length) else none := by
  rw [mk_append]
  simp only [Nat.zero_add, mk, hL, if_true]
  rw [mk_get r r L (fun _ => false) t l _ _ _ (fun j o' hj hd' => ⟨hl j o' hj hd', fun h => absurd h (by rw [hl j o' hj hd']; exact Bool.false_ne_true)⟩) rfl rfl]
  rw [mk_false _ _ _ _ _ (fun _ _ => rfl), put_get, if_pos hd, mk_size]
section
variable {P : Program} {ops : Array Oper} {sp : Nat → Option Sp} {Eff : Nat → World → World → Prop} {S : World → Prop} {bef : Nat → Nat → Bool} {Q : Exit → Act → World → Prop} {head : List Oper} {a0 : Act}
def wpOpS (P : Program) (ops : Array Oper) (Q : Exit → Act → World → Prop) (i : Nat) (K : Act → World → Prop) (a : Act) (w : World) : Prop :=
  match ops[i]? with
  | none => K a w
  | some o => if Region.wanted o (yielded ops a.tmps) then o.wp P a w K Q else K (a.put o.dst undef) w
theorem wpOp_of_S {P : Program} {ops : Array Oper} {Q : Exit → Act → World → Prop} {i : Nat} {K : Act → World → Prop} {a : Act} {w : World} (h : wpOpS P ops Q i K a w) : wpOp P ops Q i K a w := by
  unfold wpOpS at h
  unfold wpOp
  cases ho : ops[i]? with
  | none => simp only [ho] at h ⊢; exact h
  | some o =>
    simp only [ho] at h ⊢
    by_cases hw : Region.wanted o (yielded ops a.tmps) = true
    · rw [if_pos hw] at h ⊢; exact .inl h
    · rw [if_neg hw] at h ⊢; exact h
theorem in_of_wp {P : Program} {Q : Exit → Act → World → Prop} {o : Oper} {a : Act} {w : World} {K : Act → World → Prop} {n : Nat} (h : o.wp P a w K Q) : o.wpIn Fence.wide n P a w K Q := by
  refine ⟨fun _ _ => trivial, ?_⟩
  unfold Oper.wp at h
  show o.uponIn Fence.wide n P a K Q ((Oper.semAt none a.eval o).run P w)
  rw [Oper.semAt_none]
  generalize (execOp a.eval o).run P w = r at *
  have hd : Fence.wide.depth.isSome = true → 1 ≤ n := fun h => by cases h
  cases r with
  | ok x w' =>
    cases x <;> simp only [Oper.upon, Oper.uponIn] at h ⊢ <;>
      first
        | exact h
        | exact ⟨hd, callsIn_wide.2 (h.mono fun e w'' he => by cases e <;> exact he)⟩
        | exact ⟨hd, fun c cs _ => let ⟨v, w', r, s⟩ := h c cs; ⟨v, w', r, stepsIn_wide.2 s⟩⟩
  | halt x w' => cases x <;> simp only [Oper.upon, Oper.uponIn] at h ⊢ <;> exact h
theorem wpOpIn_of_S {P : Program} {ops : Array Oper} {Q : Exit → Act → World → Prop} {i n : Nat} {K : Act → World → Prop} {a : Act} {w : World} (h : wpOpS P ops Q i K a w) : wpOpIn Fence.wide n P ops Q i K a w := by
  unfold wpOpS at h
  unfold wpOpIn
  cases ho : ops[i]? with
  | none => simp only [ho] at h ⊢; exact h
  | some o =>
    simp only [ho] at h ⊢
    by_cases hw : Region.wanted o (yielded ops a.tmps) = true
    · rw [if_pos hw] at h ⊢; exact in_of_wp h
    · rw [if_neg hw] at h ⊢; exact ⟨fun _ _ => trivial, h⟩
theorem wpOpS_mono {P : Program} {ops : Array Oper} {Q : Exit → Act → World → Prop} {i : Nat} {K K' : Act → World → Prop} {a : Act} {w : World} (hK : ∀ a w, K a w → K' a w) (h : wpOpS P ops Q i K a w) : wpOpS P ops Q i K' a w := by
  unfold wpOpS at *
  cases ho : ops[i]? with
  | none => simp only [ho] at h ⊢; exact hK _ _ h
  | some o =>
    simp only [ho] at h ⊢
    by_cases hw : Region.wanted o (yielded ops a.tmps) = true
    · rw [if_pos hw] at h ⊢; exact Oper.wp_mono hK h
    · rw [if_neg hw] at h ⊢; exact hK _ _ h
theorem wpAnyIn_of_seq {P : Program} {ops : Array Oper} {md : Region.Mode} {n : Nat} {Q' : Exit → Act → World → Prop} : ∀ (l : List Oper) (k : Nat) (listed : Array Bool) (a : Act) (w : World), (∀ j, l[j]? = ops[k + j]?) →
    Region.seqB md ops l.length k listed = true → wpListIn Fence.wide n P ops Q' l a w → wpAnyIn Fence.wide n P md ops Q' l.length listed a w
  | [], _, _, _, _, _, hB, h => ⟨by simpa [Region.seqB] using hB, h⟩
  | o :: l, k, listed, a, w, hl, hB, h => by
    have h0 : ops[k]? = some o := by simpa using (hl 0).symm
    simp only [List.length_cons, Region.seqB, Bool.and_eq_true, decide_eq_true_eq] at hB
    refine ⟨fun h1 => (by rw [hB.1] at h1; cases h1), fun i hi => ?_⟩
    rw [hB.1] at hi
    have hik : i = k := by simpa using hi
    subst hik
    have hw : wpOpIn Fence.wide n P ops Q' i (wpListIn Fence.wide n P ops Q' l) a w := by unfold wpOpIn; simp only [h0]; exact h
    exact wpOpIn_mono (fun a' w' h' => wpAnyIn_of_seq l (i + 1) _ a' w' (fun j => by have := hl (j + 1); simpa [Nat.add_assoc, Nat.add_comm 1 j] using this) hB.2 h') hw
structure Inv (P : Program) (ops : Array Oper) (sp : Nat → Option Sp) (Eff : Nat → World → World → Prop) (S : World → Prop) (bef : Nat → Nat → Bool) (Q : Exit → Act → World → Prop) (head : List Oper) (a0 : Act)
    (listed : Array Bool) (a : Act) (w : World) (r : Nat → Value) : Prop where
  act : a = mk r (fun j => listed.getD j false) head 0 a0
  path : ∀ u vals, (∀ j s, listed.getD j false = true → sp j = some s → s.rng (r j) → u j = r j) → (∀ i, Obl P ops sp Eff S bef Q head a0 u vals i) →
    ∀ j, j < head.length → listed.getD j false = true → vals j = r j ∧
      ∀ o s, head[j]? = some o → sp j = some s → Region.wanted o (yielded ops (A vals head a0 j).tmps) = true → s.fact (opvals o (A vals head a0 j)) (vals j) w
  hold : S w
  inv : HeadInv .any ops head.length listed
theorem closed_trans (hc : Check ops head.length bef) {listed : Array Bool} (inv : HeadInv .any ops head.length listed) :
    ∀ (d i j : Nat) (o : Oper), i = d → i < head.length → j < head.length → ops[i]? = some o → (∀ e ∈ o.after, Region.binds .any e = true → listed.getD e.on false = true) → bef i j = true → listed.getD j false = true := by
  intro d
  induction d using Nat.strongRecOn with
  | _ d ih =>
    intro i j o hd hi hj ho hall hb
    subst hd
    obtain ⟨e, he, hbe, h⟩ := hc.ok i o j hi hj ho hb
    have hl := hall e he hbe
    have hlt := hc.lt i o hi ho e he hbe
    rcases h with rfl | h
    · exact hl
    · have hs : e.on < ops.size := by have := (Array.getElem?_eq_some_iff.1 ho).1; omega
      exact ih e.on hlt e.on j (ops[e.on]) rfl (by omega) hj (by simp [hs]) (inv.closed e.on _ (by simp [hs]) hl) h
theorem inv_step (hh : ∀ (i : Nat) (o : Oper), head[i]? = some o → ops[i]? = some o) (hn : head.length ≤ ops.size) (hc : Check ops head.length bef)
    (hS : ∀ i w w', S w → Eff i w w' → S w') (hF : ∀ j s i, sp j = some s → i ≠ j → ∀ xs v w w', s.fact xs v w → Eff i w w' → s.fact xs v w')
    (hp : ∀ u : Nat → Value, (∀ j s, sp j = some s → s.rng (u j)) → ∃ vals, ∀ i, Obl P ops sp Eff S bef Q head a0 u vals i)
    {listed : Array Bool} {a : Act} {w : World} {r : Nat → Value} (I : Inv P ops sp Eff S bef Q head a0 listed a w r) {i : Nat} (hi : i ∈ Region.ready .any ops listed) (hin : i < head.length) :
    wpOpS P ops Q i (fun a' w' => ∃ r', Inv P ops sp Eff S bef Q head a0 (listed.setIfInBounds i true) a' w' r') a w := by
  obtain ⟨hun, o, ho, hall⟩ := mem_ready.1 hi
  have hun' := getD_both hun
  have hho : head[i]? = some o := by
    have := hh i head[i] (by simp [hin])
    rw [ho] at this
    simp only [Option.some.injEq] at this
    simp [hin, this]
  have hsz : i < listed.size := by rw [I.inv.size]; omega
  have hset : ∀ j, (listed.setIfInBounds i true).getD j false = true ↔ (j = i ∨ listed.getD j false = true) := fun j => by
    by_cases h : i = j
    · subst h; simp [hsz]
    · rw [getD_set_ne false h]; exact ⟨.inr, fun h' => h'.resolve_left fun e => h e.symm⟩
  have hselo : ∀ cs b, o.op ≠ .select cs b := fun cs b => Region.noSelect_spec hc.sel i o cs b ho
  have later : ∀ j oj, i < j → head[j]? = some oj → listed.getD j false = true → o.apart ops oj = true := fun j oj hij hoj hl => by
    have hjn : j < head.length := by
      rcases Nat.lt_or_ge j head.length with h | h
      · exact h
      · rw [List.getElem?_eq_none h] at hoj; cases hoj
    rcases hc.ap j i oj o hjn hij (hh j oj hoj) ho with h | h
    · have := closed_trans hc I.inv j j i oj rfl hjn hin (hh j oj hoj) (I.inv.closed j oj (hh j oj hoj) hl) h
      rw [hun'] at this; cases this
    · exact h
  have looks : ∀ (u vals : Nat → Value), (∀ j s, listed.getD j false = true → sp j = some s → s.rng (r j) → u j = r j) → (∀ i, Obl P ops sp Eff S bef Q head a0 u vals i) →
      ∀ t ∈ o.looksAt ops, (A vals head a0 i).tmps[t]? = a.tmps[t]? := fun u vals hu hO t ht => by
    rw [I.act]
    refine mk_get _ _ _ _ t head 0 a0 a0 (fun j oj hoj hd => ?_) rfl rfl
    rw [Nat.zero_add]
    have hjn : j < head.length := by
      rcases Nat.lt_or_ge j head.length with h | h
      · exact h
      · rw [List.getElem?_eq_none h] at hoj; cases hoj
    rcases Nat.lt_trichotomy j i with h | h | h
    · rcases hc.ap i j o oj hin h ho (hh j oj hoj) with hb | hb
      · have hl := closed_trans hc I.inv i i j o rfl hin hjn ho hall hb
        refine ⟨by simp only [h, decide_true, hl], fun _ => (I.path u vals hu hO j hjn hl).1⟩
      · exact absurd ht ((Oper.apart_spec hb).1 t hd)
    · subst h
      exact ⟨by simp [hun'], fun h => by simp at h⟩
    · have hf : listed.getD j false = false := by
        cases hl : listed.getD j false with
        | false => rfl
        | true => exact absurd ht ((Oper.apart_spec (later j oj h hoj hl)).2.2 t hd)
      refine ⟨?_, fun h' => ?_⟩
      · rw [hf]
        exact decide_eq_false (by omega)
      · have := of_decide_eq_true h'
        omega
  have frame : ∀ v, a.put o.dst v = mk (fun j => if j = i then v else r j) (fun j => (listed.setIfInBounds i true).getD j false) head 0 a0 := fun v => by
    refine act_ext ?_ ?_ fun t => ?_
    · rw [mk_defers]
      have := congrArg Act.defers I.act
      rw [mk_defers] at this
      rw [← this]
      cases o.dst <;> rfl
    · rw [mk_size, put_size, I.act, mk_size]
    · by_cases hd : o.dst = some t
      · have hsp : head = head.take i ++ o :: head.drop (i + 1) := by
          have h0 : head[i] = o := by have := hho; rw [List.getElem?_eq_getElem hin] at this; simpa using this
          rw [← h0, List.getElem_cons_drop, List.take_append_drop]
        have hlen : (head.take i).length = i := by rw [List.length_take]; omega
        rw [put_get, if_pos hd]
        have := mk_last (fun j => if j = i then v else r j) (fun j => (listed.setIfInBounds i true).getD j false) (head.take i) (head.drop (i + 1)) o a0 t hd (by rw [hlen]; exact (hset i).2 (.inl rfl))
          (fun j oj hoj hdj => by
            rw [hlen]
            have hoj' : head[i + 1 + j]? = some oj := by rw [List.getElem?_drop] at hoj; exact hoj
            cases hl : (listed.setIfInBounds i true).getD (i + 1 + j) false with
            | false => rfl
            | true =>
              have hl' := ((hset _).1 hl).resolve_left (by omega)
              exact absurd hdj ((Oper.apart_spec (later _ oj (by omega) hoj' hl')).2.1 t hd))
        rw [← hsp, hlen] at this
        rw [this, if_pos rfl, I.act, mk_size]
      · rw [put_get, if_neg hd, I.act]
        refine mk_get _ _ _ _ t head 0 a0 a0 (fun j oj hoj hdj => ?_) rfl rfl
        rw [Nat.zero_add]
        have hne : i ≠ j := fun e => by
          subst e
          rw [hho] at hoj
          simp only [Option.some.injEq] at hoj
          subst hoj
          exact hd hdj
        refine ⟨(getD_set_ne false hne).symm, fun _ => (if_neg (Ne.symm hne)).symm⟩
  have known : ∀ (u vals : Nat → Value), (∀ j s, listed.getD j false = true → sp j = some s → s.rng (r j) → u j = r j) → (∀ i, Obl P ops sp Eff S bef Q head a0 u vals i) → KnownI ops sp bef head a0 vals i w :=
    fun u vals hu hO j hj hb oj s hoj hs hw => by
      have hl := closed_trans hc I.inv i i j o rfl hin (by omega) ho hall hb
      exact (I.path u vals hu hO j (by omega) hl).2 oj s hoj hs hw
  have next : ∀ v w', S w' → (w' = w ∨ Eff i w w') →
      (∀ u vals, (∀ j s, listed.getD j false = true → sp j = some s → s.rng (r j) → u j = r j) → (∀ s, sp i = some s → s.rng v → u i = v) → (∀ i, Obl P ops sp Eff S bef Q head a0 u vals i) →
        vals i = v ∧ ∀ s, sp i = some s → Region.wanted o (yielded ops (A vals head a0 i).tmps) = true → s.fact (opvals o (A vals head a0 i)) v w') →
      ∃ r', Inv P ops sp Eff S bef Q head a0 (listed.setIfInBounds i true) (a.put o.dst v) w' r' := fun v w' hSw hE hv => by
    refine ⟨fun j => if j = i then v else r j, frame v, fun u vals hu hO j hj hl => ?_, hSw, I.inv.set hi hin⟩
    have hu1 : ∀ j s, listed.getD j false = true → sp j = some s → s.rng (r j) → u j = r j := fun j s hlj hs hr => by
      have hne : j ≠ i := fun e => by rw [e, hun'] at hlj; cases hlj
      have := hu j s ((hset j).2 (.inr hlj)) hs (by rw [if_neg hne]; exact hr)
      rwa [if_neg hne] at this
    have hu2 : ∀ s, sp i = some s → s.rng v → u i = v := fun s hs hr => by
      have := hu i s ((hset i).2 (.inl rfl)) hs (by rw [if_pos rfl]; exact hr)
      rwa [if_pos rfl] at this
    obtain ⟨h1, h2⟩ := hv u vals hu1 hu2 hO
    rcases (hset j).1 hl with rfl | hl'
    · refine ⟨by rw [if_pos rfl]; exact h1, fun oj s hoj hs hw => ?_⟩
      rw [hho] at hoj
      simp only [Option.some.injEq] at hoj
      subst hoj
      rw [h1]
      exact h2 s hs hw
    · have hne : j ≠ i := fun e => by subst e; rw [hun'] at hl'; cases hl'
      obtain ⟨h3, h4⟩ := I.path u vals hu1 hO j hj hl'
      refine ⟨by rw [if_neg hne]; exact h3, fun oj s hoj hs hw => ?_⟩
      have h5 := h4 oj s hoj hs hw
      rcases hE with rfl | hE
      · exact h5
      · exact hF j s i hs (Ne.symm hne) _ _ _ _ h5 hE
  obtain ⟨u0, hu0, hr0⟩ : ∃ u0 : Nat → Value, (∀ j s, listed.getD j false = true → sp j = some s → s.rng (r j) → u0 j = r j) ∧ (∀ j s, sp j = some s → s.rng (u0 j)) := by
    have each : ∀ j, ∃ x, (∀ s, sp j = some s → s.rng (r j) → x = r j) ∧ (∀ s, sp j = some s → s.rng x) := fun j => by
      cases hs : sp j with
      | none => exact ⟨r j, fun _ _ _ => rfl, fun s h => by cases h⟩
      | some s =>
        by_cases hr : s.rng (r j)
        · exact ⟨r j, fun _ _ _ => rfl, fun s' h => by cases h; exact hr⟩
        · obtain ⟨x, hx⟩ := s.ne
          exact ⟨x, fun s' h h' => by cases h; exact absurd h' hr, fun s' h => by cases h; exact hx⟩
    exact ⟨fun j => Classical.choose (each j), fun j s _ hs hr => (Classical.choose_spec (each j)).1 s hs hr, fun j s hs => (Classical.choose_spec (each j)).2 s hs⟩
  obtain ⟨vals0, hO0⟩ := hp u0 hr0
  have hl0 := same_looks (ops := ops) hselo (looks u0 vals0 hu0 hO0)
  unfold wpOpS
  simp only [ho]
  rcases hO0 i o hho with ⟨hw0, h0⟩ | ⟨hw0, h0⟩
  · have hw : Region.wanted o (yielded ops a.tmps) = true := by rw [← hl0.2.1]; exact hw0
    rw [if_pos hw]
    cases hs : sp i with
    | none =>
      simp only [hs] at h0
      have hex := h0 w I.hold (known u0 vals0 hu0 hO0)
      have val : ∀ u vals, (∀ j s, listed.getD j false = true → sp j = some s → s.rng (r j) → u j = r j) → (∀ i, Obl P ops sp Eff S bef Q head a0 u vals i) → vals i = vals0 i := fun u vals hu hO => by
        have hl1 := same_looks (ops := ops) hselo (looks u vals hu hO)
        rcases hO i o hho with ⟨_, h1⟩ | ⟨hw1, _⟩
        · simp only [hs] at h1
          have hex1 := h1 w I.hold (known u vals hu hO)
          unfold Exact at hex hex1
          rw [hl0.1] at hex
          rw [hl1.1] at hex1
          exact exact_det (P := P) (Eff := Eff) (k := i) (o := o) (a := a) (w := w) hex1 hex
        · rw [hl1.2.1, hw] at hw1; cases hw1
      unfold Exact at hex
      rw [hl0.1] at hex
      rcases hex with hex | ⟨f, args, hex, _, hcall⟩
      · unfold Oper.wp
        rw [hex]
        exact next _ w I.hold (.inl rfl) fun u vals hu _ hO => ⟨val u vals hu hO, fun s h => by rw [hs] at h; cases h⟩
      · unfold Oper.wp
        rw [hex]
        simp only [Oper.upon]
        refine hcall.mono fun e w' he => ?_
        obtain ⟨rfl, hE⟩ := he
        exact next _ w' (hS _ _ _ I.hold hE) (.inr hE) fun u vals hu _ hO => ⟨val u vals hu hO, fun s h => by rw [hs] at h; cases h⟩
    | some s =>
      simp only [hs] at h0
      have hmd2 : o.wp P a w (fun a' w' => ∃ v, a' = a.put o.dst v ∧ s.rng v ∧ s.fact (opvals o a) v w' ∧ Eff i w w') (NoPanic Q) :=
        made_at hl0.1 (by rw [I.act]; unfold A; rw [mk_size, mk_size]) (by rw [I.act]; unfold A; rw [mk_defers, mk_defers]) hl0.2.2 (h0.2 w I.hold (known u0 vals0 hu0 hO0))
      refine wp_change (fun a' w' h => ?_) noPanic_imp hmd2
      obtain ⟨v, rfl, hrv, hfv, hE⟩ := h
      refine next v w' (hS _ _ _ I.hold hE) (.inr hE) fun u vals hu hui hO => ?_
      have hl1 := same_looks (ops := ops) hselo (looks u vals hu hO)
      rcases hO i o hho with ⟨_, h1⟩ | ⟨hw1, _⟩
      · simp only [hs] at h1
        refine ⟨h1.1.trans (hui s hs hrv), fun s' hs' _ => ?_⟩
        rw [hs] at hs'
        simp only [Option.some.injEq] at hs'
        subst hs'
        rw [hl1.2.2]
        exact hfv
      · rw [hl1.2.1, hw] at hw1; cases hw1
  · have hw : Region.wanted o (yielded ops a.tmps) = false := by rw [← hl0.2.1]; exact hw0
    rw [hw]
    simp only [Bool.false_eq_true, if_false]
    refine next undef w I.hold (.inl rfl) fun u vals hu _ hO => ?_
    have hl1 := same_looks (ops := ops) hselo (looks u vals hu hO)
    rcases hO i o hho with ⟨hw1, _⟩ | ⟨hw1, h1⟩
    · rw [hl1.2.1, hw] at hw1; cases hw1
    · exact ⟨h1, fun s _ h => by rw [hw1] at h; cases h⟩
theorem inv_any (hh : ∀ (i : Nat) (o : Oper), head[i]? = some o → ops[i]? = some o) (hn : head.length ≤ ops.size) (hc : Check ops head.length bef)
    (hS : ∀ i w w', S w → Eff i w w' → S w') (hF : ∀ j s i, sp j = some s → i ≠ j → ∀ xs v w w', s.fact xs v w → Eff i w w' → s.fact xs v w')
    (hp : ∀ u : Nat → Value, (∀ j s, sp j = some s → s.rng (u j)) → ∃ vals, ∀ i, Obl P ops sp Eff S bef Q head a0 u vals i)
    (ht : head.length < ops.size → Region.sinkB .any ops head.length = true ∧ Region.chainB .any ops head.length = true) {W : Nat → Array Bool → Act → World → Prop}
    (hfin : ∀ listed a w r, Inv P ops sp Eff S bef Q head a0 listed a w r → (∀ j, j < head.length → listed.getD j false = true) → W 0 listed a w)
    (hW : ∀ f listed a w, Region.ready .any ops listed ≠ [] → (∀ i ∈ Region.ready .any ops listed, wpOpS P ops Q i (W f (listed.setIfInBounds i true)) a w) → W (f + 1) listed a w) :
    ∀ (f : Nat) (listed : Array Bool) (a : Act) (w : World) (r : Nat → Value), Inv P ops sp Eff S bef Q head a0 listed a w r →
      ((List.range head.length).filter fun j => !listed.getD j false).length = f → W f listed a w := by
  intro f
  induction f with
  | zero =>
    intro listed a w r I hf
    refine hfin listed a w r I fun j hj => ?_
    have h0 := List.eq_nil_of_length_eq_zero hf
    cases hl : listed.getD j false with
    | true => rfl
    | false =>
      have : j ∈ (List.range head.length).filter fun j => !listed.getD j false := List.mem_filter.2 ⟨List.mem_range.2 hj, by simp only [hl, Bool.not_false]⟩
      rw [h0] at this
      cases this
  | succ f ih =>
    intro listed a w r I hf
    obtain ⟨m, hm, hmu⟩ : ∃ m, m < head.length ∧ listed.getD m false = false := by
      obtain ⟨m, hm⟩ := List.exists_mem_of_length_pos (l := (List.range head.length).filter fun j => !listed.getD j false) (by omega)
      obtain ⟨h1, h2⟩ := List.mem_filter.1 hm
      exact ⟨m, List.mem_range.1 h1, by simpa using h2⟩
    have hin : ∀ i ∈ Region.ready .any ops listed, i < head.length := fun i hi => by
      obtain ⟨_, o, ho, _⟩ := mem_ready.1 hi
      have hlt := (Array.getElem?_eq_some_iff.1 ho).1
      rcases Nat.lt_or_ge i head.length with h | h
      · exact h
      · have hts := ht (by omega)
        exact absurd hi (tail_waits hts.1 hts.2 (by omega) I.inv _ m rfl hm (getD_in (by rw [I.inv.size]; omega) hmu) i h)
    refine hW f listed a w (fun h0 => ?_) (fun i hi => ?_)
    ·
      exfalso
      have least : ∀ d m, m = d → m < head.length → listed.getD m false = false → ∃ k, k ∈ Region.ready .any ops listed := by
        intro d
        induction d using Nat.strongRecOn with
        | _ d ihd =>
          intro m hd hm hmu
          subst hd
          have hlt : m < ops.size := by omega
          by_cases hall : ∀ e ∈ ops[m].after, Region.binds .any e = true → listed.getD e.on false = true
          · exact ⟨m, mem_ready.2 ⟨getD_in (by rw [I.inv.size]; omega) hmu, ops[m], by simp [hlt], hall⟩⟩
          · have ⟨e, hne⟩ := Classical.not_forall.1 hall
            have ⟨he, hne2⟩ := Classical.not_imp.1 hne
            have ⟨hb, hne3⟩ := Classical.not_imp.1 hne2
            have hon := hc.lt m ops[m] hm (by simp [hlt]) e he hb
            exact ihd e.on hon e.on rfl (by omega) (by cases h : listed.getD e.on false with | false => rfl | true => exact absurd h hne3)
      obtain ⟨k, hk⟩ := least m m rfl hm hmu
      rw [h0] at hk
      cases hk
    · have hi' := hin i hi
      refine wpOpS_mono (fun a' w' ⟨r', I'⟩ => ih _ a' w' r' I' ?_) (inv_step hh hn hc hS hF hp I hi hi')
      have hun := getD_both (mem_ready.1 hi).1
      have hsz : i < listed.size := by rw [I.inv.size]; omega
      have hcount : ∀ (L : List Nat), L.Nodup → ((L.filter fun j => !(listed.setIfInBounds i true).getD j false).length + if i ∈ L then 1 else 0) = (L.filter fun j => !listed.getD j false).length := by
        intro L
        induction L with
        | nil => intro _; simp
        | cons x L ihL =>
          intro hnd
          obtain ⟨hx, hnd'⟩ := List.nodup_cons.1 hnd
          have h1 := ihL hnd'
          by_cases hxi : x = i
          · subst hxi
            rw [if_neg hx] at h1
            rw [if_pos (by simp), List.filter_cons, List.filter_cons]
            simp only [hun, Bool.not_false, if_true, List.length_cons]
            have : (!(listed.setIfInBounds x true).getD x false) = false := by simp [hsz]
            rw [this]
            simp only [Bool.false_eq_true, if_false]
            omega
          · have e : (!(listed.setIfInBounds i true).getD x false) = (!listed.getD x false) := by rw [getD_set_ne false (Ne.symm hxi)]
            have e2 : (i ∈ x :: L) ↔ i ∈ L := by simp [Ne.symm hxi]
            rw [List.filter_cons, List.filter_cons, e]
            simp only [e2]
            split
            · simp only [List.length_cons]; omega
            · exact h1
      have h2 := hcount (List.range head.length) List.nodup_range
      rw [if_pos (List.mem_range.2 hi')] at h2
      omega
end
theorem region_core {P : Program} {l : List Oper} {Q : Exit → Act → World → Prop} {a : Act} {w : World} (n : Nat) (B : Array Nat) (sp : Nat → Option Sp) (Eff : Nat → World → World → Prop) (S : World → Prop) (T : Act → World → Prop) {W : Nat → Array Bool → Act → World → Prop}
    (hck : checkB l.toArray n B = true) (hnl : n ≤ l.length)
    (ht : (decide (l.length ≤ n) || (Region.sinkB .any l.toArray n && Region.chainB .any l.toArray n)) = true)
    (hS0 : S w) (hS : ∀ i w w', S w → Eff i w w' → S w')
    (hF : ∀ j s i, sp j = some s → i ≠ j → ∀ xs v w w', s.fact xs v w → Eff i w w' → s.fact xs v w')
    (hT : ∀ a' w', T a' w' → W 0 ((List.replicate n true ++ List.replicate (l.length - n) false).toArray) a' w')
    (hW : ∀ f listed a w, Region.ready .any l.toArray listed ≠ [] → (∀ i ∈ Region.ready .any l.toArray listed, wpOpS P l.toArray Q i (W f (listed.setIfInBounds i true)) a w) → W (f + 1) listed a w)
    (h : wpR P l.toArray sp Eff S (fun i j => (B.getD i 0).testBit j) Q (fun led a => ∀ w, S w → AllOf led w → T a w) (l.take n) 0 [] a) :
    W n (Array.replicate l.toArray.size false) a w := by
  have hlen : (l.take n).length = n := by simp; omega
  have hc := check_of hck
  rw [← hlen] at hc
  have hpath : ∀ u : Nat → Value, (∀ j s, sp j = some s → s.rng (u j)) → ∃ vals led', (∀ i, Obl P l.toArray sp Eff S (fun i j => (B.getD i 0).testBit j) Q (l.take n) a u vals i) ∧
      LedOk l.toArray sp (l.take n) a vals (l.take n).length led' ∧ (∀ w, S w → AllOf led' w → T (A vals (l.take n) a (l.take n).length) w) := fun u hu => by
    obtain ⟨vals, led', _, h1, h2, h3⟩ := path (head := l.take n) (a0 := a) u hu (l.take n) [] [] (fun _ => undef) rfl (fun x hx => by cases hx) (by rw [List.length_nil, A_zero]; exact h)
    exact ⟨vals, led', fun i => h1 i (Nat.zero_le _), h2, h3⟩
  have I0 : Inv P l.toArray sp Eff S (fun i j => (B.getD i 0).testBit j) Q (l.take n) a (Array.replicate l.toArray.size false) a w (fun _ => undef) :=
    ⟨(mk_false _ _ _ _ _ fun j _ => getD_replicate_false _ _).symm, fun u vals _ _ j _ hl => (by rw [getD_replicate_false] at hl; cases hl), hS0,
      ⟨by simp, fun j oj _ hl => (by rw [getD_replicate_false] at hl; cases hl), fun t _ ht => getD_in (by simpa using ht) (getD_replicate_false _ _)⟩⟩
  have H := inv_any (P := P) (ops := l.toArray) (sp := sp) (Eff := Eff) (S := S) (bef := fun i j => (B.getD i 0).testBit j) (Q := Q) (head := l.take n) (a0 := a) (W := W)
    (fun i o hi => by
      rw [List.getElem?_take] at hi
      split at hi
      · simpa using hi
      · cases hi) (by simp; omega) hc hS hF (fun u hu => (hpath u hu).imp fun vals ⟨_, h, _⟩ => h)
    (fun hlt => by
      have hlt' : n < l.length := by simpa [hlen] using hlt
      simp only [Bool.or_eq_true, decide_eq_true_eq, Bool.and_eq_true] at ht
      rw [hlen]
      exact ht.resolve_left (by omega))
    (fun listed a' w' r I hall => by
      have hlisted : listed = (List.replicate n true ++ List.replicate (l.length - n) false).toArray := by
        have hsz : listed.size = l.length := by rw [I.inv.size]; simp
        refine Array.ext (by simp; omega) fun j hj hj' => ?_
        have e : ∀ d, listed.getD j d = listed[j] := fun d => by simp [hj]
        rcases Nat.lt_or_ge j n with h1 | h1
        · have := hall j (by rw [hlen]; exact h1)
          rw [e] at this
          rw [this]
          simp [h1]
        · have := I.inv.tail j (by rw [hlen]; exact h1) (by simp; omega)
          rw [e] at this
          rw [this]
          simp [List.getElem_append, Nat.not_lt.2 h1]
      have hu : ∃ u0 : Nat → Value, (∀ j s, listed.getD j false = true → sp j = some s → s.rng (r j) → u0 j = r j) ∧ (∀ j s, sp j = some s → s.rng (u0 j)) := by
        have each : ∀ j, ∃ x, (∀ s, sp j = some s → s.rng (r j) → x = r j) ∧ (∀ s, sp j = some s → s.rng x) := fun j => by
          cases hs : sp j with
          | none => exact ⟨r j, fun _ _ _ => rfl, fun s h => by cases h⟩
          | some s =>
            by_cases hr : s.rng (r j)
            · exact ⟨r j, fun _ _ _ => rfl, fun s' h => by cases h; exact hr⟩
            · obtain ⟨x, hx⟩ := s.ne
              exact ⟨x, fun s' h h' => by cases h; exact absurd h' hr, fun s' h => by cases h; exact hx⟩
        exact ⟨fun j => Classical.choose (each j), fun j s _ hs hr => (Classical.choose_spec (each j)).1 s hs hr, fun j s hs => (Classical.choose_spec (each j)).2 s hs⟩
      obtain ⟨u0, hu0, hr0⟩ := hu
      obtain ⟨vals, led', hO, hL, hfin⟩ := hpath u0 hr0
      have hall' := I.path u0 vals hu0 hO
      have ha : a' = A vals (l.take n) a (l.take n).length := by
        rw [I.act]
        exact mk_congr _ _ _ _ _ _ _ fun j _ hj => by
          rw [Nat.zero_add] at hj
          exact ⟨by rw [hall j hj]; exact (decide_eq_true hj).symm, fun _ => ((hall' j hj (hall j hj)).1).symm⟩
      have hw := hfin w' I.hold (all_of (Nat.le_refl _) led' hL fun j hj o s ho hs hwt => (hall' j hj (hall j hj)).2 o s ho hs hwt)
      rw [ha, hlisted]
      exact hT _ _ hw)
    hW
    _ (Array.replicate l.toArray.size false) a w (fun _ => undef) I0 rfl
  have hcnt : ((List.range (l.take n).length).filter fun j => !(Array.replicate l.toArray.size false).getD j false).length = n := by
    rw [List.filter_eq_self.2 (fun j _ => by rw [getD_replicate_false]; rfl), List.length_range, hlen]
  rw [hcnt] at H
  exact H
theorem wp_region_rt {P : Program} {id : Nat} {l : List Oper} {Q : Exit → Act → World → Prop} {a : Act} {w : World} (n : Nat) (B : Array Nat) (sp : Nat → Option Sp) (Eff : Nat → World → World → Prop) (S : World → Prop)
    (hm : P.follows .mixedOrders = true) (hck : checkB l.toArray n B = true) (hnl : n ≤ l.length)
    (ht : (decide (l.length ≤ n) || (Region.sinkB .any l.toArray n && Region.chainB .any l.toArray n)) = true)
    (hsq : Region.seqB .any l.toArray (l.length - n) n ((List.replicate n true ++ List.replicate (l.length - n) false).toArray) = true)
    (hS0 : S { w with drawn := w.drawn + 1 }) (hS : ∀ i w w', S w → Eff i w w' → S w')
    (hF : ∀ j s i, sp j = some s → i ≠ j → ∀ xs v w w', s.fact xs v w → Eff i w w' → s.fact xs v w')
    (h : wpR P l.toArray sp Eff S (fun i j => (B.getD i 0).testBit j) Q (fun led a => ∀ w, S w → AllOf led w → wpList P l.toArray Q (l.drop n) a w) (l.take n) 0 [] a) :
    (Code.region id l.toArray true).wp P Q a w := by
  refine wp_region_any hm ?_
  have hdl : (l.drop n).length = l.length - n := by simp
  have H := region_core (P := P) (l := l) (Q := Q) n B sp Eff S (fun a w => wpList P l.toArray Q (l.drop n) a w) (W := fun f => wpAny P .any l.toArray Q (f + (l.length - n))) hck hnl ht hS0 hS hF
    (fun a' w' hw => by
      have := wpAny_of_seq (P := P) (md := .any) (Q' := Q) (l.drop n) n _ a' w' (fun j => by simp [List.getElem?_drop]) (by rw [hdl]; exact hsq) hw
      rw [hdl] at this
      rwa [Nat.zero_add])
    (fun f listed a' w' hne hi => by
      rw [show f + 1 + (l.length - n) = (f + (l.length - n)) + 1 by omega]
      exact ⟨fun h0 => absurd h0 hne, fun i hmem => wpOp_of_S (hi i hmem)⟩) h
  rw [show n + (l.length - n) = l.length by omega] at H
  simpa using H
theorem wpIn_region_rt {P : Program} {id m : Nat} {l : List Oper} {Q : Exit → Act → World → Prop} {a : Act} {w : World} (n : Nat) (B : Array Nat) (sp : Nat → Option Sp) (Eff : Nat → World → World → Prop) (S : World → Prop)
    (hm : P.follows .mixedOrders = true) (hck : checkB l.toArray n B = true) (hnl : n ≤ l.length)
    (ht : (decide (l.length ≤ n) || (Region.sinkB .any l.toArray n && Region.chainB .any l.toArray n)) = true)
    (hsq : Region.seqB .any l.toArray (l.length - n) n ((List.replicate n true ++ List.replicate (l.length - n) false).toArray) = true)
    (hS0 : S { w with drawn := w.drawn + 1 }) (hS : ∀ i w w', S w → Eff i w w' → S w')
    (hF : ∀ j s i, sp j = some s → i ≠ j → ∀ xs v w w', s.fact xs v w → Eff i w w' → s.fact xs v w')
    (h : wpR P l.toArray sp Eff S (fun i j => (B.getD i 0).testBit j) Q (fun led a => ∀ w, S w → AllOf led w → wpListIn Fence.wide m P l.toArray Q (l.drop n) a w) (l.take n) 0 [] a) :
    (Code.region id l.toArray true).wpIn Fence.wide m P Q a w := by
  refine wpIn_region_any hm ?_
  have hdl : (l.drop n).length = l.length - n := by simp
  have H := region_core (P := P) (l := l) (Q := Q) n B sp Eff S (fun a w => wpListIn Fence.wide m P l.toArray Q (l.drop n) a w) (W := fun f => wpAnyIn Fence.wide m P .any l.toArray Q (f + (l.length - n))) hck hnl ht hS0 hS hF
    (fun a' w' hw => by
      have := wpAnyIn_of_seq (P := P) (md := .any) (n := m) (Q' := Q) (l.drop n) n _ a' w' (fun j => by simp [List.getElem?_drop]) (by rw [hdl]; exact hsq) hw
      rw [hdl] at this
      rwa [Nat.zero_add])
    (fun f listed a' w' hne hi => by
      rw [show f + 1 + (l.length - n) = (f + (l.length - n)) + 1 by omega]
      exact ⟨fun h0 => absurd h0 hne, fun i hmem => wpOpIn_of_S (hi i hmem)⟩) h
  rw [show n + (l.length - n) = l.length by omega] at H
  simpa using H
section
variable {P : Program} {ops : Array Oper} {sp : Nat → Option Sp} {Eff : Nat → World → World → Prop} {S : World → Prop} {bef : Nat → Nat → Bool} {Q : Exit → Act → World → Prop}
  {Fin : List (Nat × (World → Prop)) → Act → Prop} {o : Oper} {l : List Oper} {k : Nat} {led : List (Nat × (World → Prop))} {a : Act}
theorem wpR_val {v : Value} (hw : Region.wanted o (yielded ops a.tmps) = true) (hs : sp k = none) (hx : ∀ w, S w → Known bef k led w → (execOp a.eval o).run P w = .ok (.value v) w)
    (h : wpR P ops sp Eff S bef Q Fin l (k + 1) led (a.put o.dst v)) : wpR P ops sp Eff S bef Q Fin (o :: l) k led a :=
  .inl ⟨hw, by rw [hs]; exact ⟨v, fun w h1 h2 => .inl (hx w h1 h2), h⟩⟩
theorem wpR_call {v : Value} {f : FuncId} {args : Array Value} (hw : Region.wanted o (yielded ops a.tmps) = true) (hs : sp k = none) (hr : ∀ w, (execOp a.eval o).run P w = .ok (.enter f args) w) (hi : P.inits.idxOf? f = none)
    (hx : ∀ w, S w → Known bef k led w → Calls P f args w fun e w' => e = .returned v ∧ Eff k w w')
    (h : wpR P ops sp Eff S bef Q Fin l (k + 1) led (a.put o.dst v)) : wpR P ops sp Eff S bef Q Fin (o :: l) k led a :=
  .inl ⟨hw, by rw [hs]; exact ⟨v, fun w h1 h2 => .inr ⟨f, args, hr w, hi, hx w h1 h2⟩, h⟩⟩
theorem wpR_made {s : Sp} (hw : Region.wanted o (yielded ops a.tmps) = true) (hs : sp k = some s) (hx : ∀ w, S w → Known bef k led w → Made P Eff Q k s o a w)
    (h : ∀ v, s.rng v → wpR P ops sp Eff S bef Q Fin l (k + 1) ((k, s.fact (opvals o a) v) :: led) (a.put o.dst v)) : wpR P ops sp Eff S bef Q Fin (o :: l) k led a :=
  .inl ⟨hw, by rw [hs]; exact ⟨hx, h⟩⟩
theorem wpR_skip (hw : Region.wanted o (yielded ops a.tmps) = false) (h : wpR P ops sp Eff S bef Q Fin l (k + 1) led (a.put o.dst undef)) : wpR P ops sp Eff S bef Q Fin (o :: l) k led a :=
  .inr ⟨hw, h⟩
end
def Ext (w w' : World) : Prop := Below w.heap.size w w'
theorem Ext.refl (w : World) : Ext w w := Below.refl _ _
theorem Ext.trans {a b c : World} (h : Ext a b) (h' : Ext b c) : Ext a c := Below.trans h (Below.mono h' h.size)
theorem Ext.drew (w : World) : Ext w w.drew := (Below.refl _ _).drew
theorem Ext.alloc (w : World) (o : Obj) : Ext w (w.alloc o) := (Below.refl _ _).alloc (Nat.le_refl _) _
theorem Ext.cell {w w' : World} (h : Ext w w') {a : Addr} {v : Value} (hc : w.cell? a = some v) : w'.cell? a = some v := (Below.cell h (World.block_lt_of_cell? w a hc)).trans hc
theorem Ext.rules {W w1 : World} (hb : Ext W w1) : (∀ b o, b < W.heap.size → w1.cell? ⟨b, o, none⟩ = W.cell? ⟨b, o, none⟩) ∧ (∀ b o, b < W.heap.size → w1.frozen? ⟨b, o, none⟩ = W.frozen? ⟨b, o, none⟩) :=
  ⟨fun b o h => Below.cell hb (p := ⟨b, o, none⟩) h, fun b o h => Below.frozen hb (p := ⟨b, o, none⟩) h⟩
def spOf : List (Nat × Sp) → Nat → Option Sp
  | [], _ => none
  | (j, s) :: l, k => if k = j then some s else spOf l k
def Sp.stable (s : Sp) : Prop := ∀ xs v w w', s.fact xs v w → Ext w w' → s.fact xs v w'
def StableAll : List (Nat × Sp) → Prop
  | [] => True
  | (_, s) :: l => s.stable ∧ StableAll l
theorem stable_of {j : Nat} {s : Sp} : ∀ {l : List (Nat × Sp)}, StableAll l → spOf l j = some s → s.stable
  | [], _, h => by cases h
  | (i, s') :: l, hs, h => by
    simp only [spOf] at h
    split at h
    · cases h; exact hs.1
    · exact stable_of hs.2 h
theorem region_ext {P : Program} {id : Nat} {l : List Oper} {Q : Exit → Act → World → Prop} {a : Act} {w : World} (n : Nat) (sps : List (Nat × Sp))
    (hm : P.follows .mixedOrders = true)
    (hck : (checkB l.toArray n (Region.before l.toArray) && decide (n ≤ l.length) && (decide (l.length ≤ n) || (Region.sinkB .any l.toArray n && Region.chainB .any l.toArray n)) &&
      Region.seqB .any l.toArray (l.length - n) n ((List.replicate n true ++ List.replicate (l.length - n) false).toArray)) = true)
    (hF : StableAll sps)
    (h : wpR P l.toArray (spOf sps) (fun _ => Ext) (Ext w) (fun i j => ((Region.before l.toArray).getD i 0).testBit j) Q
      (fun led a => ∀ w', Ext w w' → AllOf led w' → wpList P l.toArray Q (l.drop n) a w') (l.take n) 0 [] a) :
    (Code.region id l.toArray true).wp P Q a w := by
  simp only [Bool.and_eq_true, decide_eq_true_eq] at hck
  obtain ⟨⟨⟨h1, h2⟩, h3⟩, h4⟩ := hck
  exact wp_region_rt n _ (spOf sps) (fun _ => Ext) (Ext w) hm h1 h2 h3 h4 (Ext.drew w) (fun _ _ _ h h' => h.trans h') (fun j s i hs _ xs v w w' hf he => stable_of hF hs xs v w w' hf he) h
theorem region_extIn {P : Program} {id m : Nat} {l : List Oper} {Q : Exit → Act → World → Prop} {a : Act} {w : World} (n : Nat) (sps : List (Nat × Sp))
    (hm : P.follows .mixedOrders = true)
    (hck : (checkB l.toArray n (Region.before l.toArray) && decide (n ≤ l.length) && (decide (l.length ≤ n) || (Region.sinkB .any l.toArray n && Region.chainB .any l.toArray n)) &&
      Region.seqB .any l.toArray (l.length - n) n ((List.replicate n true ++ List.replicate (l.length - n) false).toArray)) = true)
    (hF : StableAll sps)
    (h : wpR P l.toArray (spOf sps) (fun _ => Ext) (Ext w) (fun i j => ((Region.before l.toArray).getD i 0).testBit j) Q
      (fun led a => ∀ w', Ext w w' → AllOf led w' → wpListIn Fence.wide m P l.toArray Q (l.drop n) a w') (l.take n) 0 [] a) :
    (Code.region id l.toArray true).wpIn Fence.wide m P Q a w := by
  simp only [Bool.and_eq_true, decide_eq_true_eq] at hck
  obtain ⟨⟨⟨h1, h2⟩, h3⟩, h4⟩ := hck
  exact wpIn_region_rt n _ (spOf sps) (fun _ => Ext) (Ext w) hm h1 h2 h3 h4 (Ext.drew w) (fun _ _ _ h h' => h.trans h') (fun j s i hs _ xs v w w' hf he => stable_of hF hs xs v w w' hf he) h
end Go.RT
end
section
set_option linter.unusedVariables false
namespace Go.Proofs.Ytebfnjabgkhngaa
open Go.RowKit Go.RT
theorem ret_int {k : IntKind} {a b : Int} (h : a = b) : Ending.returned (.int k a) = .returned (.int k b) := by rw [h]
theorem ret_bool {a b : Bool} (h : a = b) : Ending.returned (.bool a) = .returned (.bool b) := by rw [h]
abbrev CallsInt (f : FuncId) (args : Array Value) (w : World) (n : Int) : Prop := Calls Try.prog f args w fun e w' => e = .returned (.int .i64 n) ∧ Ext w w'
abbrev CallsVal (f : FuncId) (args : Array Value) (w : World) (v : Value) : Prop := Calls Try.prog f args w fun e w' => e = .returned v ∧ Ext w w'
def Rd {α : Type} (size : Nat) (P : World → α → List Value → Prop) (w : World) (v : Value) (xs : List α) : Prop :=
  ∃ A c, v = .slice A xs.length c ∧ xs.length ≤ 4294967296 ∧
    ∀ i x, xs[i]? = some x → ∃ b o cs, A = some ⟨b, o, none⟩ ∧ P w x cs ∧ cs.length = size ∧ ∀ j u, cs[j]? = some u → w.cell? ⟨b, o + i * size + j, none⟩ = some u
def Keeps {α : Type} (P : World → α → List Value → Prop) : Prop := ∀ w w' x cs, P w x cs → Ext w w' → P w' x cs
theorem Rd.ext {α : Type} {size : Nat} {P : World → α → List Value → Prop} (hP : Keeps P) {w w' : World} {v : Value} {xs : List α} (h : Rd size P w v xs) (he : Ext w w') : Rd size P w' v xs := by
  obtain ⟨A, c, h1, h2, h3⟩ := h
  refine ⟨A, c, h1, h2, fun i x hx => ?_⟩
  obtain ⟨b, o, cs, h4, h5, h6, h7⟩ := h3 i x hx
  exact ⟨b, o, cs, h4, hP _ _ _ _ h5 he, h6, fun j u hu => he.cell (h7 j u hu)⟩
def Flat {α : Type} (enc : α → List Value) : World → α → List Value → Prop := fun _ x cs => cs = enc x
theorem Flat.keeps {α : Type} (enc : α → List Value) : Keeps (Flat enc) := fun _ _ _ _ h _ => h
theorem Rd.nil {α : Type} (size : Nat) (P : World → α → List Value → Prop) (w : World) (A : Option Addr) (c : Nat) : Rd size P w (.slice A 0 c) ([] : List α) :=
  ⟨A, c, rfl, by simp, fun i x h => by simp at h⟩
theorem Rd.form {α : Type} {size : Nat} {P : World → α → List Value → Prop} {w : World} {v : Value} {xs : List α} (h : Rd size P w v xs) : ∃ A c, v = .slice A xs.length c ∧ xs.length ≤ 4294967296 := by
  obtain ⟨A, c, h1, h2, _⟩ := h
  exact ⟨A, c, h1, h2⟩
theorem Rd.at_ {α : Type} {size : Nat} {enc : α → List Value} {w : World} {A : Option Addr} {n c : Nat} {xs : List α} (h : Rd size (Flat enc) w (.slice A n c) xs) (i : Nat) (hi : i < xs.length) :
    ∃ b o, A = some ⟨b, o, none⟩ ∧ ∀ j u, (enc xs[i])[j]? = some u → w.cell? ⟨b, o + i * size + j, none⟩ = some u := by
  obtain ⟨A', c', h1, _, h3⟩ := h
  obtain ⟨b, o, cs, h4, h5, h6, h7⟩ := h3 i xs[i] (by simp [hi])
  cases h1
  cases h5
  exact ⟨b, o, h4, h7⟩
theorem flat_get {α : Type} {enc : α → List Value} {size : Nat} : ∀ {xs : List α}, (∀ x ∈ xs, (enc x).length = size) → ∀ i x, xs[i]? = some x → ∀ j u, (enc x)[j]? = some u → (xs.flatMap enc)[i * size + j]? = some u
  | [], _, i, x, h, _, _, _ => by simp at h
  | y :: l, hs, 0, x, h, j, u, hu => by
    simp only [List.getElem?_cons_zero, Option.some.injEq] at h
    subst h
    rw [List.flatMap_cons, Nat.zero_mul, Nat.zero_add, List.getElem?_append_left (List.getElem?_eq_some_iff.1 hu).1]
    exact hu
  | y :: l, hs, i + 1, x, h, j, u, hu => by
    have hy := hs y (by simp)
    rw [List.flatMap_cons, List.getElem?_append_right (by rw [hy, Nat.succ_mul]; omega), hy]
    rw [show (i + 1) * size + j - size = i * size + j by rw [Nat.succ_mul]; omega]
    exact flat_get (fun z hz => hs z (by simp [hz])) i x (by simpa using h) j u hu
theorem rd_flat {α : Type} {enc : α → List Value} {size : Nat} {w : World} {b o c : Nat} {xs : List α} (hl : xs.length ≤ 4294967296) (hs : ∀ x ∈ xs, (enc x).length = size)
    (h : ∀ j u, (xs.flatMap enc)[j]? = some u → w.cell? ⟨b, o + j, none⟩ = some u) : Rd size (Flat enc) w (.slice (some ⟨b, o, none⟩) xs.length c) xs :=
  ⟨_, _, rfl, hl, fun i x hx => ⟨b, o, enc x, rfl, rfl, hs x (List.mem_of_getElem? hx), fun j u hu => by
    have := h _ _ (flat_get hs i x hx j u hu)
    rwa [← Nat.add_assoc] at this⟩⟩
theorem rd_flat' {α : Type} {enc : α → List Value} {size : Nat} {w : World} {b o c n : Nat} {xs : List α} (hn : xs.length = n) (hl : xs.length ≤ 4294967296) (hs : ∀ x ∈ xs, (enc x).length = size)
    (h : ∀ j u, (xs.flatMap enc)[j]? = some u → w.cell? ⟨b, o + j, none⟩ = some u) : Rd size (Flat enc) w (.slice (some ⟨b, o, none⟩) n c) xs := hn ▸ rd_flat hl hs h
theorem cell_laid (w : World) (cs : Array Value) (T : TypeId) (j : Nat) (u : Value) (h : cs.toList[j]? = some u) : (w.alloc (.cells cs T)).cell? ⟨w.heap.size, 0 + j, none⟩ = some u := by
  rw [Nat.zero_add]
  have e : (w.alloc (.cells cs T)).heap[w.heap.size]? = some (.cells cs T (0, 0)) := by
    show (w.heap.push _)[w.heap.size]? = _
    simp
  unfold World.cell?
  simp only [e, Option.isSome_none, Bool.false_eq_true, if_false]
  simpa using h
end Go.Proofs.Ytebfnjabgkhngaa
end
section
set_option linter.unusedVariables false
namespace Go.Proofs.Ytebfnjabgkhngaa
open Go.RowKit Go.RT
theorem w64 {x : Int} (h : -9223372036854775808 ≤ x) (h' : x ≤ 9223372036854775807) : wrap64 x = x := by unfold wrap64; omega
def spanErr (lo hi a b : Int) : Int := if ¬ (a ≤ lo ∧ lo ≤ b) ∨ ¬ (a ≤ hi ∧ hi ≤ b) then 1 else if lo > hi then 5 else 0
def manyErr (n most : Int) : Int := if n = 0 then 7 else if n > most then 6 else 0
set_option maxHeartbeats 400000 in
theorem checkSpan_any (lo hi a b : Int) (w : World) : CallsInt 102 #[.agg #[.int .i64 lo, .int .i64 hi], .int .i64 a, .int .i64 b] w (spanErr lo hi a b) := by
  go_enter Try.func102, Try.ntmps102
  go_wp2
  all_goals
    go_ret
    exact ⟨ret_int (by (try simp at *); unfold spanErr; (repeat' split) <;> omega), Ext.alloc _ _⟩
set_option maxHeartbeats 400000 in
theorem checkOff_any (lo hi : Int) (w : World) : CallsInt 75 #[.agg #[.int .i64 lo, .int .i64 hi]] w (spanErr lo hi (-10000) 10000) := by
  go_enter Try.func75, Try.ntmps75
  go_wp2_with (go_at_call 102; refine (checkSpan_any _ _ _ _ _).mono ?_; rintro e w' ⟨rfl, hE⟩)
  go_ret
  exact ⟨rfl, (Ext.alloc _ _).trans hE⟩
set_option maxHeartbeats 400000 in
theorem many_any (n most : Int) (w : World) : Calls Try.prog 94 #[.int .i64 n, .int .i64 most] w fun e w' => e = .returned (.int .i64 (manyErr n most)) ∧ w = w' := by
  go_enter Try.func94, Try.ntmps94
  go_wp2
  all_goals
    go_ret
    exact ⟨ret_int (by unfold manyErr; (repeat' split) <;> simp_all <;> omega), rfl⟩
def far : Int := 1099511627776
def plusLo (a c : Int) : Int := if a ≤ -1099511627776 ∨ c ≤ -1099511627776 then -1099511627776 else a + c
def plusHi (b d : Int) : Int := if 1099511627776 ≤ b ∨ 1099511627776 ≤ d then 1099511627776 else b + d
set_option maxHeartbeats 400000 in
theorem plus_any (a b c d : Int) (w : World) (ha : -2199023255552 ≤ a) (ha' : a ≤ 2199023255552) (hb : -2199023255552 ≤ b) (hb' : b ≤ 2199023255552) (hc : -2199023255552 ≤ c) (hc' : c ≤ 2199023255552) (hd : -2199023255552 ≤ d) (hd' : d ≤ 2199023255552) :
    CallsVal 120 #[.agg #[.int .i64 a, .int .i64 b], .agg #[.int .i64 c, .int .i64 d]] w (.agg #[.int .i64 (plusLo a c), .int .i64 (plusHi b d)]) := by
  go_enter Try.func120, Try.ntmps120
  go_wp2
  all_goals refine bodyPost_ret (v := .agg #[.int .i64 (plusLo a c), .int .i64 (plusHi b d)]) (by simp [results, Try.results120, go_sem]; try (unfold plusLo plusHi; constructor <;> split <;> omega)) rfl ⟨rfl, ((((Below.refl _ _).alloc (Nat.le_refl _) _).alloc (by simp) _).alloc (by simp; omega) _).alloc (by simp; omega) _⟩
set_option maxHeartbeats 400000 in
theorem turned_any (a b : Int) (w : World) (ha : -2199023255552 ≤ a) (ha' : a ≤ 2199023255552) (hb : -2199023255552 ≤ b) (hb' : b ≤ 2199023255552) :
    CallsVal 121 #[.agg #[.int .i64 a, .int .i64 b]] w (.agg #[.int .i64 (-b), .int .i64 (-a)]) := by
  go_enter Try.func121, Try.ntmps121
  go_wp2
  all_goals refine bodyPost_ret (v := .agg #[.int .i64 (-b), .int .i64 (-a)]) (by simp [results, Try.results121, go_sem]) rfl ⟨rfl, ((((Below.refl _ _).alloc (Nat.le_refl _) _).alloc (by simp) _))⟩
set_option maxHeartbeats 400000 in
theorem both_any (a b c d : Int) (w : World) :
    CallsVal 118 #[.agg #[.int .i64 a, .int .i64 b], .agg #[.int .i64 c, .int .i64 d]] w (.agg #[.int .i64 (max a c), .int .i64 (min b d)]) := by
  go_enter Try.func118, Try.ntmps118
  go_wp2
  all_goals refine bodyPost_ret (v := .agg #[.int .i64 (max a c), .int .i64 (min b d)]) (by simp [results, Try.results118, go_sem]; omega) rfl ⟨rfl, ((((Below.refl _ _).alloc (Nat.le_refl _) _).alloc (by simp) _).alloc (by simp; omega) _)⟩
set_option maxHeartbeats 400000 in
theorem pair_any (a b : Int) (w : World) :
    CallsVal 116 #[.agg #[.int .i64 a, .int .i64 b]] w (.agg #[.int .i64 a, .int .i64 b]) := by
  go_enter Try.func116, Try.ntmps116
  go_wp2
  all_goals refine bodyPost_ret (v := .agg #[.int .i64 a, .int .i64 b]) (by simp [results, Try.results116, go_sem]) rfl ⟨rfl, ((((Below.refl _ _).alloc (Nat.le_refl _) _).alloc (by simp) _))⟩
set_option maxHeartbeats 400000 in
theorem massAt_any (m ws s t : Value) (days n : Int) (w : World) (h1 : 0 ≤ n) (h2 : n ≤ 1000) :
    CallsInt 86 #[.agg #[m, ws, s, t, .int .i64 days], .int .i64 n] w (1 + n) := by
  go_enter Try.func86, Try.ntmps86
  go_wp2
  go_ret
  exact ⟨rfl, Ext.alloc _ _⟩
set_option maxHeartbeats 400000 in
theorem dayAt_any (A : Option Addr) (k c : Nat) (ws s t : Value) (days sc d : Int) (w : World) (hk : k ≤ 1000) (h1 : 0 ≤ sc) (h2 : sc ≤ 1000) (h3 : 0 ≤ days) (h4 : days ≤ 1000) (h5 : 0 ≤ d) (h6 : d ≤ 1000) :
    CallsInt 117 #[.agg #[.slice A k c, ws, s, t, .int .i64 days], .int .i64 sc, .int .i64 d] w (1 + k + sc * (days + 1) + d) := by
  go_enter Try.func117, Try.ntmps117
  go_wp2
  go_ret
  have hm0 : 0 ≤ sc * (days + 1) := Int.mul_nonneg h1 (by omega)
  have hm1 : sc * (days + 1) ≤ 1000 * 1001 := Int.mul_le_mul h2 (by omega) (by omega) (by omega)
  exact ⟨ret_int (by rw [w64 (x := sc * (days + 1)) (by omega) (by omega), w64 (x := 1 + k + _) (by omega) (by omega), w64 (by omega) (by omega)]), Ext.alloc _ _⟩
end Go.Proofs.Ytebfnjabgkhngaa
end
section
set_option linter.unusedVariables false
namespace Go.Proofs.Ytebfnjabgkhngaa
open Go.RowKit Go.RT
structure Mass where
  nom : Int
  lo : Int
  hi : Int
structure Weighing where
  a : Int
  b : Int
  lo : Int
  hi : Int
structure Scale where
  flo : Int
  fhi : Int
  dlo : Int
  dhi : Int
structure Trial where
  scale : Int
  day : Int
  mass : Int
  shown : Int
structure Bench where
  masses : List Mass
  weighings : List Weighing
  scales : List Scale
  trials : List Trial
  days : Int
def encMass (x : Mass) : List Value := [.int .i64 x.nom, .int .i64 x.lo, .int .i64 x.hi]
def encWeighing (x : Weighing) : List Value := [.int .i64 x.a, .int .i64 x.b, .int .i64 x.lo, .int .i64 x.hi]
def encScale (x : Scale) : List Value := [.int .i64 x.flo, .int .i64 x.fhi, .int .i64 x.dlo, .int .i64 x.dhi]
def encTrial (x : Trial) : List Value := [.int .i64 x.scale, .int .i64 x.day, .int .i64 x.mass, .int .i64 x.shown]
def firstErr {α : Type} (f : α → Int) : List α → Int
  | [] => 0
  | x :: l => if f x = 0 then firstErr f l else f x
theorem firstErr_drop {α : Type} (f : α → Int) (l : List α) (k : Nat) (h : k < l.length) : firstErr f (l.drop k) = if f l[k] = 0 then firstErr f (l.drop (k + 1)) else f l[k] := by
  rw [List.drop_eq_getElem_cons h]; rfl
def Callable (f : FuncId) : Prop := ∃ fn, Try.prog.funcs[f]? = some fn ∧ (fn.name == "runtime.NumGoroutine") = false ∧ fn.body.isNone = false
def fnV (f : Nat) (p : Value) : Value := .func (.func f) #[] #[p]
theorem run_callFunc {P : Program} {f : FuncId} {fn : Func} (h1 : P.funcs[f]? = some fn) (h2 : (fn.name == "runtime.NumGoroutine") = false) (h3 : fn.body.isNone = false) (args : Array Value) (w : World) :
    (callFunc f args).run P w = .ok (.enter f args) w := by
  simp [callFunc, go_sem, h1]
  rw [if_neg (by simpa using h2), if_neg (by intro h; simp [h] at h3)]
set_option maxRecDepth 100000 in
set_option maxHeartbeats 400000 in
theorem first_any (fs : List (Nat × Int)) (p : Value) (v : Value) (w : World) (hv : Rd 1 (Flat fun (x : Nat × Int) => [fnV x.1 p]) w v fs)
    (HC : ∀ x ∈ fs, Callable x.1) (H : ∀ x ∈ fs, ∀ w', Ext w w' → CallsInt x.1 #[p] w' x.2) : CallsInt 73 #[v] w (firstErr (fun x => x.2) fs) := by
  obtain ⟨A, c, rfl, hlen⟩ := hv.form
  go_enter Try.func73, Try.ntmps73
  go_wp2
  go_loopw [8] (fun i wr => ∃ k : Nat, i = .int .i64 k ∧ k ≤ fs.length ∧ Ext w wr ∧ firstErr (fun x => x.2) fs = firstErr (fun x => x.2) (fs.drop k)) (fun i _ => fs.length - (intOf i).toNat)
  case atStart => exact ⟨0, rfl, Nat.zero_le _, Ext.refl _, rfl⟩
  case round =>
    obtain ⟨k, rfl, hk, hE, hf⟩ := hrel
    have HF := Lib.hid hf
    clear hf
    by_cases hlt : k < fs.length
    · obtain ⟨b, o, rfl, hc⟩ := (hv.ext (Flat.keeps _) hE).at_ k hlt
      have c0 := hc 0 _ rfl
      have hH := H fs[k] (List.getElem_mem hlt)
      have hC := HC fs[k] (List.getElem_mem hlt)
      have hd := firstErr_drop (fun x : Nat × Int => x.2) fs k hlt
      simp only [fnV, Nat.add_zero, Nat.mul_one] at c0
      clear hc H HC hv
      generalize fs[k] = x at *
      obtain ⟨f, r⟩ := x
      simp only at c0 hd hH hC
      obtain ⟨fn, hf1, hf2, hf3⟩ := hC
      have hcall := fun W => run_callFunc hf1 hf2 hf3 #[p] W
      clear hf1 hf2 hf3
      have HD := Lib.hid hd
      have HH := Lib.hid hH
      clear hd hH
      go_wp2_with fail
      refine (HH.out _ hE).mono ?_
      rintro e w1 ⟨rfl, hE1⟩
      have hE2 := hE.trans hE1
      clear c0
      by_cases hr : r = 0
      · subst hr
        go_wp2
        go_roundw
        case rel => exact ⟨k + 1, by go_num, by omega, hE2, by rw [HF.out, HD.out]; rfl⟩
        case measure => simp [intOf]; omega
      · have hr' : (r != 0) = true := by simpa using hr
        have HR := Lib.hid hr
        clear hr
        go_wp2
        go_ret
        exact ⟨ret_int (by rw [HF.out, HD.out, if_neg HR.out]), hE2⟩
    · obtain rfl : k = fs.length := by omega
      go_wp2
      go_ret
      exact ⟨by rw [HF.out]; simp [firstErr], hE⟩
set_option maxRecDepth 100000 in
set_option maxHeartbeats 400000 in
theorem eachMass_any (xs : List Mass) (v : Value) (f : FuncId) (caps : Array Value) (g : Mass → Int) (w : World) (hv : Rd 3 (Flat encMass) w v xs) (hC : Callable f)
    (H : ∀ x ∈ xs, ∀ w', Ext w w' → CallsInt f (#[.agg (encMass x).toArray] ++ caps) w' (g x)) : CallsInt 96 #[v, .func (.func f) #[] caps] w (firstErr g xs) := by
  obtain ⟨A, c, rfl, hlen⟩ := hv.form
  obtain ⟨fn, hf1, hf2, hf3⟩ := hC
  have hcall := fun args W => run_callFunc hf1 hf2 hf3 args W
  clear hf1 hf2 hf3
  go_enter Try.func96, Try.ntmps96
  go_wp2
  go_loopw [10] (fun i wr => ∃ k : Nat, i = .int .i64 k ∧ k ≤ xs.length ∧ Ext w wr ∧ firstErr g xs = firstErr g (xs.drop k)) (fun i _ => xs.length - (intOf i).toNat)
  case atStart => exact ⟨0, rfl, Nat.zero_le _, Ext.refl _, rfl⟩
  case round =>
    obtain ⟨k, rfl, hk, hE, hf⟩ := hrel
    have HF := Lib.hid hf
    clear hf
    by_cases hlt : k < xs.length
    · obtain ⟨b, o, rfl, hc⟩ := (hv.ext (Flat.keeps _) hE).at_ k hlt
      have c0 := hc 0 _ rfl
      have c1 := hc 1 _ rfl
      have c2 := hc 2 _ rfl
      have hH := H xs[k] (List.getElem_mem hlt)
      have hd := firstErr_drop g xs k hlt
      simp only [Nat.add_zero] at c0 c1 c2
      clear hc H hv
      generalize xs[k] = x at *
      obtain ⟨nom, lo, hi⟩ := x
      simp only [encMass] at c0 c1 c2 hH
      generalize g ⟨nom, lo, hi⟩ = r at *
      have HD := Lib.hid hd
      have HH := Lib.hid hH
      clear hd hH
      go_wp2_with fail
      refine (HH.out _ (hE.trans (Ext.alloc _ _))).mono ?_
      rintro e w1 ⟨rfl, hE1⟩
      have hE2 := (hE.trans (Ext.alloc _ _)).trans hE1
      clear c0 c1 c2
      by_cases hr : r = 0
      · subst hr
        go_wp2
        go_roundw
        case rel => exact ⟨k + 1, by go_num, by omega, hE2, by rw [HF.out, HD.out]; rfl⟩
        case measure => simp [intOf]; omega
      · have hr' : (r != 0) = true := by simpa using hr
        have HR := Lib.hid hr
        clear hr
        go_wp2
        go_ret
        exact ⟨ret_int (by rw [HF.out, HD.out, if_neg HR.out]), hE2⟩
    · obtain rfl : k = xs.length := by omega
      go_wp2
      go_ret
      exact ⟨by rw [HF.out]; simp [firstErr], hE⟩
set_option maxRecDepth 100000 in
set_option maxHeartbeats 400000 in
theorem eachWeighing_any (xs : List Weighing) (v : Value) (f : FuncId) (caps : Array Value) (g : Weighing → Int) (w : World) (hv : Rd 4 (Flat encWeighing) w v xs) (hC : Callable f)
    (H : ∀ x ∈ xs, ∀ w', Ext w w' → CallsInt f (#[.agg (encWeighing x).toArray] ++ caps) w' (g x)) : CallsInt 100 #[v, .func (.func f) #[] caps] w (firstErr g xs) := by
  obtain ⟨A, c, rfl, hlen⟩ := hv.form
  obtain ⟨fn, hf1, hf2, hf3⟩ := hC
  have hcall := fun args W => run_callFunc hf1 hf2 hf3 args W
  clear hf1 hf2 hf3
  go_enter Try.func100, Try.ntmps100
  go_wp2
  go_loopw [10] (fun i wr => ∃ k : Nat, i = .int .i64 k ∧ k ≤ xs.length ∧ Ext w wr ∧ firstErr g xs = firstErr g (xs.drop k)) (fun i _ => xs.length - (intOf i).toNat)
  case atStart => exact ⟨0, rfl, Nat.zero_le _, Ext.refl _, rfl⟩
  case round =>
    obtain ⟨k, rfl, hk, hE, hf⟩ := hrel
    have HF := Lib.hid hf
    clear hf
    by_cases hlt : k < xs.length
    · obtain ⟨b, o, rfl, hc⟩ := (hv.ext (Flat.keeps _) hE).at_ k hlt
      have c0 := hc 0 _ rfl
      have c1 := hc 1 _ rfl
      have c2 := hc 2 _ rfl
      have c3 := hc 3 _ rfl
      have hH := H xs[k] (List.getElem_mem hlt)
      have hd := firstErr_drop g xs k hlt
      simp only [Nat.add_zero] at c0 c1 c2 c3
      clear hc H hv
      generalize xs[k] = x at *
      obtain ⟨a, b, lo, hi⟩ := x
      simp only [encWeighing] at c0 c1 c2 c3 hH
      generalize g ⟨a, b, lo, hi⟩ = r at *
      have HD := Lib.hid hd
      have HH := Lib.hid hH
      clear hd hH
      go_wp2_with fail
      refine (HH.out _ (hE.trans (Ext.alloc _ _))).mono ?_
      rintro e w1 ⟨rfl, hE1⟩
      have hE2 := (hE.trans (Ext.alloc _ _)).trans hE1
      clear c0 c1 c2 c3
      by_cases hr : r = 0
      · subst hr
        go_wp2
        go_roundw
        case rel => exact ⟨k + 1, by go_num, by omega, hE2, by rw [HF.out, HD.out]; rfl⟩
        case measure => simp [intOf]; omega
      · have hr' : (r != 0) = true := by simpa using hr
        have HR := Lib.hid hr
        clear hr
        go_wp2
        go_ret
        exact ⟨ret_int (by rw [HF.out, HD.out, if_neg HR.out]), hE2⟩
    · obtain rfl : k = xs.length := by omega
      go_wp2
      go_ret
      exact ⟨by rw [HF.out]; simp [firstErr], hE⟩
set_option maxRecDepth 100000 in
set_option maxHeartbeats 400000 in
theorem eachScale_any (xs : List Scale) (v : Value) (f : FuncId) (caps : Array Value) (g : Scale → Int) (w : World) (hv : Rd 4 (Flat encScale) w v xs) (hC : Callable f)
    (H : ∀ x ∈ xs, ∀ w', Ext w w' → CallsInt f (#[.agg (encScale x).toArray] ++ caps) w' (g x)) : CallsInt 105 #[v, .func (.func f) #[] caps] w (firstErr g xs) := by
  obtain ⟨A, c, rfl, hlen⟩ := hv.form
  obtain ⟨fn, hf1, hf2, hf3⟩ := hC
  have hcall := fun args W => run_callFunc hf1 hf2 hf3 args W
  clear hf1 hf2 hf3
  go_enter Try.func105, Try.ntmps105
  go_wp2
  go_loopw [10] (fun i wr => ∃ k : Nat, i = .int .i64 k ∧ k ≤ xs.length ∧ Ext w wr ∧ firstErr g xs = firstErr g (xs.drop k)) (fun i _ => xs.length - (intOf i).toNat)
  case atStart => exact ⟨0, rfl, Nat.zero_le _, Ext.refl _, rfl⟩
  case round =>
    obtain ⟨k, rfl, hk, hE, hf⟩ := hrel
    have HF := Lib.hid hf
    clear hf
    by_cases hlt : k < xs.length
    · obtain ⟨b, o, rfl, hc⟩ := (hv.ext (Flat.keeps _) hE).at_ k hlt
      have c0 := hc 0 _ rfl
      have c1 := hc 1 _ rfl
      have c2 := hc 2 _ rfl
      have c3 := hc 3 _ rfl
      have hH := H xs[k] (List.getElem_mem hlt)
      have hd := firstErr_drop g xs k hlt
      simp only [Nat.add_zero] at c0 c1 c2 c3
      clear hc H hv
      generalize xs[k] = x at *
      obtain ⟨flo, fhi, dlo, dhi⟩ := x
      simp only [encScale] at c0 c1 c2 c3 hH
      generalize g ⟨flo, fhi, dlo, dhi⟩ = r at *
      have HD := Lib.hid hd
      have HH := Lib.hid hH
      clear hd hH
      go_wp2_with fail
      refine (HH.out _ (hE.trans (Ext.alloc _ _))).mono ?_
      rintro e w1 ⟨rfl, hE1⟩
      have hE2 := (hE.trans (Ext.alloc _ _)).trans hE1
      clear c0 c1 c2 c3
      by_cases hr : r = 0
      · subst hr
        go_wp2
        go_roundw
        case rel => exact ⟨k + 1, by go_num, by omega, hE2, by rw [HF.out, HD.out]; rfl⟩
        case measure => simp [intOf]; omega
      · have hr' : (r != 0) = true := by simpa using hr
        have HR := Lib.hid hr
        clear hr
        go_wp2
        go_ret
        exact ⟨ret_int (by rw [HF.out, HD.out, if_neg HR.out]), hE2⟩
    · obtain rfl : k = xs.length := by omega
      go_wp2
      go_ret
      exact ⟨by rw [HF.out]; simp [firstErr], hE⟩
set_option maxRecDepth 100000 in
set_option maxHeartbeats 400000 in
theorem eachTrial_any (xs : List Trial) (v : Value) (f : FuncId) (caps : Array Value) (g : Trial → Int) (w : World) (hv : Rd 4 (Flat encTrial) w v xs) (hC : Callable f)
    (H : ∀ x ∈ xs, ∀ w', Ext w w' → CallsInt f (#[.agg (encTrial x).toArray] ++ caps) w' (g x)) : CallsInt 111 #[v, .func (.func f) #[] caps] w (firstErr g xs) := by
  obtain ⟨A, c, rfl, hlen⟩ := hv.form
  obtain ⟨fn, hf1, hf2, hf3⟩ := hC
  have hcall := fun args W => run_callFunc hf1 hf2 hf3 args W
  clear hf1 hf2 hf3
  go_enter Try.func111, Try.ntmps111
  go_wp2
  go_loopw [10] (fun i wr => ∃ k : Nat, i = .int .i64 k ∧ k ≤ xs.length ∧ Ext w wr ∧ firstErr g xs = firstErr g (xs.drop k)) (fun i _ => xs.length - (intOf i).toNat)
  case atStart => exact ⟨0, rfl, Nat.zero_le _, Ext.refl _, rfl⟩
  case round =>
    obtain ⟨k, rfl, hk, hE, hf⟩ := hrel
    have HF := Lib.hid hf
    clear hf
    by_cases hlt : k < xs.length
    · obtain ⟨b, o, rfl, hc⟩ := (hv.ext (Flat.keeps _) hE).at_ k hlt
      have c0 := hc 0 _ rfl
      have c1 := hc 1 _ rfl
      have c2 := hc 2 _ rfl
      have c3 := hc 3 _ rfl
      have hH := H xs[k] (List.getElem_mem hlt)
      have hd := firstErr_drop g xs k hlt
      simp only [Nat.add_zero] at c0 c1 c2 c3
      clear hc H hv
      generalize xs[k] = x at *
      obtain ⟨scale, day, mass, shown⟩ := x
      simp only [encTrial] at c0 c1 c2 c3 hH
      generalize g ⟨scale, day, mass, shown⟩ = r at *
      have HD := Lib.hid hd
      have HH := Lib.hid hH
      clear hd hH
      go_wp2_with fail
      refine (HH.out _ (hE.trans (Ext.alloc _ _))).mono ?_
      rintro e w1 ⟨rfl, hE1⟩
      have hE2 := (hE.trans (Ext.alloc _ _)).trans hE1
      clear c0 c1 c2 c3
      by_cases hr : r = 0
      · subst hr
        go_wp2
        go_roundw
        case rel => exact ⟨k + 1, by go_num, by omega, hE2, by rw [HF.out, HD.out]; rfl⟩
        case measure => simp [intOf]; omega
      · have hr' : (r != 0) = true := by simpa using hr
        have HR := Lib.hid hr
        clear hr
        go_wp2
        go_ret
        exact ⟨ret_int (by rw [HF.out, HD.out, if_neg HR.out]), hE2⟩
    · obtain rfl : k = xs.length := by omega
      go_wp2
      go_ret
      exact ⟨by rw [HF.out]; simp [firstErr], hE⟩
end Go.Proofs.Ytebfnjabgkhngaa
end
section
set_option linter.unusedVariables false
namespace Go.Proofs.Ytebfnjabgkhngaa
open Go.RowKit Go.RT
def massErr (m : Mass) : Int := if ¬ (1 ≤ m.nom ∧ m.nom ≤ 1000000) then 1 else spanErr m.lo m.hi (-10000) 10000
def weighErr (n : Nat) (x : Weighing) : Int :=
  if ¬ (0 ≤ x.a ∧ x.a ≤ (n : Int) - 1) ∨ ¬ (0 ≤ x.b ∧ x.b ≤ (n : Int) - 1) then 3 else if x.a = x.b then 2 else spanErr x.lo x.hi (-20000) 20000
def scaleErr (x : Scale) : Int := if spanErr x.flo x.fhi (-10000) 10000 = 0 then spanErr x.dlo x.dhi (-10000) 10000 else spanErr x.flo x.fhi (-10000) 10000
def trialErr (ns nm : Nat) (days : Int) (x : Trial) : Int :=
  if ¬ (0 ≤ x.scale ∧ x.scale ≤ (ns : Int) - 1) ∨ ¬ (0 ≤ x.mass ∧ x.mass ≤ (nm : Int) - 1) then 3
  else if ¬ (0 ≤ x.day ∧ x.day ≤ days) ∨ ¬ (0 ≤ x.shown ∧ x.shown ≤ 2000000) then 1 else 0
def daysErr (days : Int) (n : Nat) : Int := if ¬ (0 ≤ days ∧ days ≤ 8) then 1 else manyErr (1 + n) 7
theorem callable {f : FuncId} {fn : Func} (h : Try.prog.funcs[f]? = some fn) (h2 : (fn.name == "runtime.NumGoroutine") = false) (h3 : fn.body.isNone = false) : Callable f := ⟨fn, h, h2, h3⟩
set_option maxHeartbeats 400000 in
theorem massErr_any (m : Mass) (w : World) : CallsInt 97 #[.agg #[.int .i64 m.nom, .int .i64 m.lo, .int .i64 m.hi]] w (massErr m) := by
  obtain ⟨nom, lo, hi⟩ := m
  go_enter Try.func97, Try.ntmps97
  go_wp2_with first | (go_at_call 77; go_in) | (go_at_call 75; refine (checkOff_any _ _ _).mono ?_; rintro e w' ⟨rfl, hE⟩)
  all_goals
    go_ret
    refine ⟨ret_int ?_, ?_⟩
    · (try simp at *); unfold massErr; dsimp only; (repeat' split) <;> first | rfl | omega
    · first | exact (Ext.alloc _ _).trans (by assumption) | exact Ext.alloc _ _
set_option maxHeartbeats 400000 in
theorem weighErr_any (x : Weighing) (B : Nat) (A : Option Addr) (n c : Nat) (w : World) (hn : n ≤ 4294967296) (h0 : w.cell? ⟨B, 0, none⟩ = some (.slice A n c)) :
    CallsInt 101 #[.agg #[.int .i64 x.a, .int .i64 x.b, .int .i64 x.lo, .int .i64 x.hi], .pointer (some ⟨B, 0, none⟩)] w (weighErr n x) := by
  obtain ⟨a, b, lo, hi⟩ := x
  have hB := World.block_lt_of_cell? w _ h0
  simp only at hB
  go_enter Try.func101, Try.ntmps101
  go_wp2_with first | (go_at_call 77; go_in) | (go_at_call 102; refine (checkSpan_any _ _ _ _ _).mono ?_; rintro e w' ⟨rfl, hE⟩)
  all_goals
    go_ret
    refine ⟨ret_int ?_, ?_⟩
    · (try simp at *); unfold weighErr; dsimp only; (repeat' split) <;> first | rfl | omega
    · first | exact (Ext.alloc _ _).trans (by assumption) | exact Ext.alloc _ _
set_option maxHeartbeats 400000 in
theorem trialErr_any (x : Trial) (B : Nat) (A A2 : Option Addr) (n c n2 c2 : Nat) (days : Int) (w : World) (hn : n ≤ 4294967296) (hn2 : n2 ≤ 4294967296) (h0 : w.cell? ⟨B, 0, none⟩ = some (.slice A n c)) (h2 : w.cell? ⟨B, 2, none⟩ = some (.slice A2 n2 c2))
    (h4 : w.cell? ⟨B, 4, none⟩ = some (.int .i64 days)) :
    CallsInt 112 #[.agg #[.int .i64 x.scale, .int .i64 x.day, .int .i64 x.mass, .int .i64 x.shown], .pointer (some ⟨B, 0, none⟩)] w (trialErr n2 n days x) := by
  obtain ⟨sc, d, m, s⟩ := x
  have hB := World.block_lt_of_cell? w _ h0
  simp only at hB
  go_enter Try.func112, Try.ntmps112
  go_wp2_with first | (go_at_call 77; go_in)
  all_goals
    go_ret
    refine ⟨ret_int ?_, ?_⟩
    · (try simp at *); unfold trialErr; dsimp only; (repeat' split) <;> first | rfl | omega
    · exact Ext.alloc _ _
set_option maxHeartbeats 400000 in
theorem chk6a (B : Nat) (a b : Int) (w : World) (h0 : w.cell? ⟨B, 0, none⟩ = some (.int .i64 a)) (h1 : w.cell? ⟨B, 1, none⟩ = some (.int .i64 b)) :
    CallsInt 107 #[.pointer (some ⟨B, 0, none⟩)] w (spanErr a b (-10000) 10000) := by
  go_enter Try.func107, Try.ntmps107
  go_wp2_with (go_at_call 75; refine (checkOff_any _ _ _).mono ?_; rintro e w' ⟨rfl, hE⟩)
  go_ret
  exact ⟨rfl, hE⟩
set_option maxHeartbeats 400000 in
theorem chk6b (B : Nat) (a b : Int) (w : World) (h0 : w.cell? ⟨B, 2, none⟩ = some (.int .i64 a)) (h1 : w.cell? ⟨B, 3, none⟩ = some (.int .i64 b)) :
    CallsInt 108 #[.pointer (some ⟨B, 0, none⟩)] w (spanErr a b (-10000) 10000) := by
  go_enter Try.func108, Try.ntmps108
  go_wp2_with (go_at_call 75; refine (checkOff_any _ _ _).mono ?_; rintro e w' ⟨rfl, hE⟩)
  go_ret
  exact ⟨rfl, hE⟩
set_option maxHeartbeats 400000 in
theorem scaleErr_any (x : Scale) (w : World) : CallsInt 106 #[.agg #[.int .i64 x.flo, .int .i64 x.fhi, .int .i64 x.dlo, .int .i64 x.dhi]] w (scaleErr x) := by
  obtain ⟨a, b, c, d⟩ := x
  go_enter Try.func106, Try.ntmps106
  go_wp2_with fail
  refine (first_any [(107, spanErr a b (-10000) 10000), (108, spanErr c d (-10000) 10000)] (.pointer (some ⟨w.heap.size, 0, none⟩)) _ _
    (rd_flat (xs := [(107, spanErr a b (-10000) 10000), (108, spanErr c d (-10000) 10000)]) (by simp) (by simp) (fun j u hu => ?_)) ?_ ?_).mono ?_
  · have := cell_laid (w.alloc (.cells #[.int .i64 a, .int .i64 b, .int .i64 c, .int .i64 d] 95)) _ 137 j u hu
    rw [World.size_alloc] at this
    exact this
  · intro x hx
    simp only [List.mem_cons, List.not_mem_nil, or_false] at hx
    rcases hx with rfl | rfl
    · exact callable Try.func107 (by decide) rfl
    · exact callable Try.func108 (by decide) rfl
  · intro x hx w' hE
    have c0 : w'.cell? ⟨w.heap.size, 0, none⟩ = some (.int .i64 a) := hE.cell (by simp [go_sem])
    have c1 : w'.cell? ⟨w.heap.size, 1, none⟩ = some (.int .i64 b) := hE.cell (by simp [go_sem])
    have c2 : w'.cell? ⟨w.heap.size, 2, none⟩ = some (.int .i64 c) := hE.cell (by simp [go_sem])
    have c3 : w'.cell? ⟨w.heap.size, 3, none⟩ = some (.int .i64 d) := hE.cell (by simp [go_sem])
    simp only [List.mem_cons, List.not_mem_nil, or_false] at hx
    rcases hx with rfl | rfl
    · exact chk6a _ _ _ _ c0 c1
    · exact chk6b _ _ _ _ c2 c3
  rintro e w1 ⟨rfl, hE⟩
  go_wp2
  go_ret
  exact ⟨ret_int (by unfold scaleErr; simp only [firstErr]; split <;> first | rfl | (split <;> simp_all)), ((Ext.alloc _ _).trans (Ext.alloc _ _)).trans hE⟩
end Go.Proofs.Ytebfnjabgkhngaa
end
section
set_option linter.unusedVariables false
namespace Go.Proofs.Ytebfnjabgkhngaa
open Go.RowKit Go.RT
def BenchRd (w : World) (v : Value) (b : Bench) : Prop :=
  ∃ m ws s t, v = .agg #[m, ws, s, t, .int .i64 b.days] ∧ Rd 3 (Flat encMass) w m b.masses ∧ Rd 4 (Flat encWeighing) w ws b.weighings ∧ Rd 4 (Flat encScale) w s b.scales ∧ Rd 4 (Flat encTrial) w t b.trials
theorem BenchRd.ext {w w' : World} {v : Value} {b : Bench} (h : BenchRd w v b) (he : Ext w w') : BenchRd w' v b := by
  obtain ⟨m, ws, s, t, h1, h2, h3, h4, h5⟩ := h
  exact ⟨m, ws, s, t, h1, h2.ext (Flat.keeps _) he, h3.ext (Flat.keeps _) he, h4.ext (Flat.keeps _) he, h5.ext (Flat.keeps _) he⟩
def checkErrs (b : Bench) : List Int :=
  [manyErr b.masses.length 5, firstErr massErr b.masses, manyErr (1 + b.weighings.length) 7, firstErr (weighErr b.masses.length) b.weighings,
   manyErr b.scales.length 3, firstErr scaleErr b.scales, daysErr b.days b.trials.length, firstErr (trialErr b.scales.length b.masses.length b.days) b.trials]
def checkErr (b : Bench) : Int := firstErr id (checkErrs b)
structure Box (w : World) (B : Nat) (m ws s t : Value) (days : Int) : Prop where
  c0 : w.cell? ⟨B, 0, none⟩ = some m
  c1 : w.cell? ⟨B, 1, none⟩ = some ws
  c2 : w.cell? ⟨B, 2, none⟩ = some s
  c3 : w.cell? ⟨B, 3, none⟩ = some t
  c4 : w.cell? ⟨B, 4, none⟩ = some (.int .i64 days)
theorem Box.ext {w w' : World} {B : Nat} {m ws s t : Value} {days : Int} (h : Box w B m ws s t days) (he : Ext w w') : Box w' B m ws s t days :=
  ⟨he.cell h.c0, he.cell h.c1, he.cell h.c2, he.cell h.c3, he.cell h.c4⟩
section
variable (B : Nat) (b : Bench) (m ws s t : Value) (w : World) (hb : Box w B m ws s t b.days) (hm : Rd 3 (Flat encMass) w m b.masses) (hw : Rd 4 (Flat encWeighing) w ws b.weighings) (hs : Rd 4 (Flat encScale) w s b.scales) (ht : Rd 4 (Flat encTrial) w t b.trials)
include hb
include hm in
set_option maxHeartbeats 400000 in
theorem chk1 : CallsInt 93 #[.pointer (some ⟨B, 0, none⟩)] w (manyErr b.masses.length 5) := by
  obtain ⟨A, c, rfl, hl⟩ := hm.form
  have c0 := hb.c0
  clear hb hm
  go_enter Try.func93, Try.ntmps93
  go_wp2_with (go_at_call 94; refine (many_any _ _ _).mono ?_; rintro e w' ⟨rfl, rfl⟩)
  go_ret
  exact ⟨rfl, Ext.refl _⟩
include hm in
set_option maxHeartbeats 400000 in
theorem chk2 : CallsInt 95 #[.pointer (some ⟨B, 0, none⟩)] w (firstErr massErr b.masses) := by
  have c0 := hb.c0
  clear hb
  go_enter Try.func95, Try.ntmps95
  go_wp2_with fail
  refine (eachMass_any b.masses m 97 #[] massErr w hm (callable Try.func97 (by decide) rfl) (fun x _ w' hE => massErr_any x w')).mono ?_
  rintro e w1 ⟨rfl, hE⟩
  go_wp2
  go_ret
  exact ⟨rfl, hE⟩
include hw in
set_option maxHeartbeats 400000 in
theorem chk3 : CallsInt 98 #[.pointer (some ⟨B, 0, none⟩)] w (manyErr (1 + b.weighings.length) 7) := by
  obtain ⟨A, c, rfl, hl⟩ := hw.form
  have c0 := hb.c1
  clear hb hw
  go_enter Try.func98, Try.ntmps98
  go_wp2_with (go_at_call 94; refine (many_any _ _ _).mono ?_; rintro e w' ⟨rfl, rfl⟩)
  go_ret
  exact ⟨rfl, Ext.refl _⟩
include hm hw in
set_option maxHeartbeats 400000 in
theorem chk4 : CallsInt 99 #[.pointer (some ⟨B, 0, none⟩)] w (firstErr (weighErr b.masses.length) b.weighings) := by
  obtain ⟨A, c, rfl, hl⟩ := hm.form
  have c0 := hb.c0
  have c1 := hb.c1
  clear hb
  go_enter Try.func99, Try.ntmps99
  go_wp2_with fail
  refine (eachWeighing_any b.weighings ws 101 #[.pointer (some ⟨B, 0, none⟩)] (weighErr b.masses.length) w hw (callable Try.func101 (by decide) rfl) (fun x _ w' hE => weighErr_any x B A _ c w' hl (hE.cell c0))).mono ?_
  rintro e w1 ⟨rfl, hE⟩
  go_wp2
  go_ret
  exact ⟨rfl, hE⟩
include hs in
set_option maxHeartbeats 400000 in
theorem chk5 : CallsInt 103 #[.pointer (some ⟨B, 0, none⟩)] w (manyErr b.scales.length 3) := by
  obtain ⟨A, c, rfl, hl⟩ := hs.form
  have c0 := hb.c2
  clear hb hs
  go_enter Try.func103, Try.ntmps103
  go_wp2_with (go_at_call 94; refine (many_any _ _ _).mono ?_; rintro e w' ⟨rfl, rfl⟩)
  go_ret
  exact ⟨rfl, Ext.refl _⟩
include hs in
set_option maxHeartbeats 400000 in
theorem chk6 : CallsInt 104 #[.pointer (some ⟨B, 0, none⟩)] w (firstErr scaleErr b.scales) := by
  have c0 := hb.c2
  clear hb
  go_enter Try.func104, Try.ntmps104
  go_wp2_with fail
  refine (eachScale_any b.scales s 106 #[] scaleErr w hs (callable Try.func106 (by decide) rfl) (fun x _ w' hE => scaleErr_any x w')).mono ?_
  rintro e w1 ⟨rfl, hE⟩
  go_wp2
  go_ret
  exact ⟨rfl, hE⟩
include ht in
set_option maxHeartbeats 400000 in
theorem chk7 : CallsInt 109 #[.pointer (some ⟨B, 0, none⟩)] w (daysErr b.days b.trials.length) := by
  obtain ⟨A, c, rfl, hl⟩ := ht.form
  have c0 := hb.c3
  have c4 := hb.c4
  clear hb ht
  go_enter Try.func109, Try.ntmps109
  go_wp2_with first | (go_at_call 77; go_in) | (go_at_call 94; refine (many_any _ _ _).mono ?_; rintro e w' ⟨rfl, rfl⟩)
  all_goals
    go_ret
    refine ⟨ret_int ?_, Ext.refl _⟩
    (try simp at *); unfold daysErr; (repeat' split) <;> first | rfl | omega
include hm hs ht in
set_option maxHeartbeats 400000 in
theorem chk8 : CallsInt 110 #[.pointer (some ⟨B, 0, none⟩)] w (firstErr (trialErr b.scales.length b.masses.length b.days) b.trials) := by
  obtain ⟨A, c, rfl, hl⟩ := hm.form
  obtain ⟨A2, c2, rfl, hl2⟩ := hs.form
  have c0 := hb.c0
  have c3 := hb.c3
  have c4 := hb.c4
  have k2 := hb.c2
  clear hb
  go_enter Try.func110, Try.ntmps110
  go_wp2_with fail
  refine (eachTrial_any b.trials t 112 #[.pointer (some ⟨B, 0, none⟩)] (trialErr b.scales.length b.masses.length b.days) w ht (callable Try.func112 (by decide) rfl)
    (fun x _ w' hE => trialErr_any x B A A2 _ c _ c2 _ w' hl hl2 (hE.cell c0) (hE.cell k2) (hE.cell c4))).mono ?_
  rintro e w1 ⟨rfl, hE⟩
  go_wp2
  go_ret
  exact ⟨rfl, hE⟩
end
set_option maxHeartbeats 400000 in
theorem Check_any (b : Bench) (v : Value) (w : World) (h : BenchRd w v b) : CallsInt 41 #[v] w (checkErr b) := by
  obtain ⟨m, ws, s, t, rfl, hm, hw, hs, ht⟩ := h
  go_enter Try.func41, Try.ntmps41
  go_wp2_with fail
  have fs : ∃ fs : List (Nat × Int), fs = [(93, manyErr b.masses.length 5), (95, firstErr massErr b.masses), (98, manyErr (1 + b.weighings.length) 7), (99, firstErr (weighErr b.masses.length) b.weighings),
    (103, manyErr b.scales.length 3), (104, firstErr scaleErr b.scales), (109, daysErr b.days b.trials.length), (110, firstErr (trialErr b.scales.length b.masses.length b.days) b.trials)] := ⟨_, rfl⟩
  obtain ⟨fs, hfs⟩ := fs
  have hlen : fs.length = 8 := by rw [hfs]; rfl
  refine (first_any fs (.pointer (some ⟨w.heap.size, 0, none⟩)) _ _ (rd_flat' (xs := fs) hlen (by omega) (by simp) (fun j u hu => ?_)) ?_ ?_).mono ?_
  · have := cell_laid (w.alloc (.cells #[m, ws, s, t, .int .i64 b.days] 27)) _ 137 j u (by rw [hfs] at hu; exact hu)
    rw [World.size_alloc] at this
    exact this
  · intro x hx
    rw [hfs] at hx
    simp only [List.mem_cons, List.not_mem_nil, or_false] at hx
    rcases hx with rfl | rfl | rfl | rfl | rfl | rfl | rfl | rfl
    · exact callable Try.func93 (by decide) rfl
    · exact callable Try.func95 (by decide) rfl
    · exact callable Try.func98 (by decide) rfl
    · exact callable Try.func99 (by decide) rfl
    · exact callable Try.func103 (by decide) rfl
    · exact callable Try.func104 (by decide) rfl
    · exact callable Try.func109 (by decide) rfl
    · exact callable Try.func110 (by decide) rfl
  · intro x hx w' hE
    have hE0 := ((Ext.alloc _ _).trans (Ext.alloc _ _)).trans hE
    have hB : Box w' w.heap.size m ws s t b.days := ⟨hE.cell (by simp [go_sem]), hE.cell (by simp [go_sem]), hE.cell (by simp [go_sem]), hE.cell (by simp [go_sem]), hE.cell (by simp [go_sem])⟩
    have hm' := hm.ext (Flat.keeps _) hE0
    have hw' := hw.ext (Flat.keeps _) hE0
    have hs' := hs.ext (Flat.keeps _) hE0
    have ht' := ht.ext (Flat.keeps _) hE0
    rw [hfs] at hx
    simp only [List.mem_cons, List.not_mem_nil, or_false] at hx
    rcases hx with rfl | rfl | rfl | rfl | rfl | rfl | rfl | rfl
    · exact chk1 _ b _ _ _ _ _ hB hm'
    · exact chk2 _ b _ _ _ _ _ hB hm'
    · exact chk3 _ b _ _ _ _ _ hB hw'
    · exact chk4 _ b _ _ _ _ _ hB hm' hw'
    · exact chk5 _ b _ _ _ _ _ hB hs'
    · exact chk6 _ b _ _ _ _ _ hB hs'
    · exact chk7 _ b _ _ _ _ _ hB ht'
    · exact chk8 _ b _ _ _ _ _ hB hm' hs' ht'
  rintro e w1 ⟨rfl, hE⟩
  have hval : firstErr (fun x : Nat × Int => x.2) fs = checkErr b := by rw [hfs]; rfl
  clear hfs hlen
  have HV := Lib.hid hval
  clear hval
  go_wp2
  go_ret
  exact ⟨ret_int HV.out, ((Ext.alloc _ _).trans (Ext.alloc _ _)).trans hE⟩
end Go.Proofs.Ytebfnjabgkhngaa
end
