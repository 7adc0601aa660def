/-
The statement ScaleLasts: proved for every input. Part 2 of 11.
-/
import Derived.Test.YtebfnjabgkhngaaLa1
section
set_option linter.all false
set_option linter.unusedVariables false
set_option linter.unusedSimpArgs false
set_option linter.constructorNameAsVariable false
set_option linter.unusedVariables false
namespace Go.Proofs.Ytebfnjabgkhngaa
open Go.RowKit Go.RT
def OwnB (w : World) (b : Nat) (T : TypeId) (cs : List Value) : Prop := w.heap[b]? = some (.cells cs.toArray T (0, 0))
theorem OwnB.lt {w : World} {b : Nat} {T : TypeId} {cs : List Value} (h : OwnB w b T cs) : b < w.heap.size := (Array.getElem?_eq_some_iff.1 h).1
theorem OwnB.cell {w : World} {b : Nat} {T : TypeId} {cs : List Value} (h : OwnB w b T cs) {j : Nat} {u : Value} (hu : cs[j]? = some u) : w.cell? ⟨b, j, none⟩ = some u := by
  unfold World.cell?
  unfold OwnB at h
  simp only [h, Option.isSome_none, Bool.false_eq_true, if_false]
  simpa using hu
theorem OwnB.frozen {w : World} {b : Nat} {T : TypeId} {cs : List Value} (h : OwnB w b T cs) (j : Nat) : w.frozen? ⟨b, j, none⟩ = false := by
  unfold World.frozen?
  unfold OwnB at h
  simp only [h]
  simp
theorem OwnB.ext {w w' : World} {b : Nat} {T : TypeId} {cs : List Value} (h : OwnB w b T cs) (he : Ext w w') : OwnB w' b T cs := (he.block b h.lt).trans h
theorem OwnB.set {w : World} {b : Nat} {T : TypeId} {cs : List Value} (h : OwnB w b T cs) (j : Nat) (v : Value) : OwnB (w.setCell ⟨b, j, none⟩ v) b T (cs.set j v) := by
  unfold OwnB at *
  simp only [World.setCell, Array.getElem?_modify, h, if_true, Option.map_some, Option.isSome_none, Bool.false_eq_true, if_false]
  simp
theorem OwnB.other {w : World} {b b' : Nat} {T : TypeId} {cs : List Value} (h : OwnB w b T cs) (hne : b ≠ b') (j : Nat) (v : Value) : OwnB (w.setCell ⟨b', j, none⟩ v) b T cs := by
  unfold OwnB at *
  rw [Below.heap_setCell _ _ _ _ (by simpa using hne)]
  exact h
theorem OwnB.laid (w : World) (T : TypeId) (cs : List Value) : OwnB (w.alloc (.cells cs.toArray T)) w.heap.size T cs := by
  show (w.heap.push _)[w.heap.size]? = _
  simp
theorem ext_own {w w' : World} (h : Ext w w') {b j : Nat} (hb : w.heap.size ≤ b) (v : Value) : Ext w (w'.setCell ⟨b, j, none⟩ v) := Below.setCell h (p := ⟨b, j, none⟩) hb v
abbrev D := Int × Int
def encD (p : D) : List Value := [.int .i64 p.1, .int .i64 p.2]
def rowV (n R : Nat) : Value := .slice (some ⟨R, 0, none⟩) n n
def TabOwn (base n : Nat) (w : World) (v : Value) (t : List (List D)) : Prop :=
  ∃ (T : Nat) (Rs : List Nat), v = .slice (some ⟨T, 0, none⟩) n n ∧ base ≤ T ∧ t.length = n ∧ Rs.length = n ∧ T ∉ Rs ∧ Rs.Nodup ∧ (∀ R ∈ Rs, base ≤ R) ∧ OwnB w T 152 (Rs.map (rowV n)) ∧
    ∀ (i R : Nat) (row : List D), Rs[i]? = some R → t[i]? = some row → row.length = n ∧ OwnB w R 117 (row.flatMap encD)
def TabRow : World → List D → List Value → Prop := fun w row cs => ∃ u, cs = [u] ∧ Rd 2 (Flat encD) w u row
theorem TabRow.keeps : Keeps TabRow := fun w w' x cs ⟨u, h1, h2⟩ he => ⟨u, h1, h2.ext (Flat.keeps _) he⟩
def TabRd (n : Nat) (w : World) (v : Value) (t : List (List D)) : Prop := Rd 1 TabRow w v t ∧ t.length = n ∧ ∀ row ∈ t, row.length = n
theorem TabRd.ext {n : Nat} {w w' : World} {v : Value} {t : List (List D)} (h : TabRd n w v t) (he : Ext w w') : TabRd n w' v t := ⟨h.1.ext TabRow.keeps he, h.2⟩
theorem encD_len (x : D) : (encD x).length = 2 := rfl
theorem flatD_len (row : List D) : (row.flatMap encD).length = row.length * 2 := by
  induction row with
  | nil => rfl
  | cons x l ih => simp only [List.flatMap_cons, List.length_append, encD_len, ih, List.length_cons]; omega
theorem TabOwn.rd {base n : Nat} {w : World} {v : Value} {t : List (List D)} (hn : n ≤ 4294967296) (h : TabOwn base n w v t) : TabRd n w v t := by
  obtain ⟨T, Rs, rfl, _, ht, hR, _, _, _, hT, hrows⟩ := h
  refine ⟨⟨_, n, by rw [ht], by omega, fun i x hx => ?_⟩, ht, fun row hrow => ?_⟩
  · have hi : i < n := by have := (List.getElem?_eq_some_iff.1 hx).1; omega
    have hRi : Rs[i]? = some (Rs[i]'(by omega)) := by simp [hR, hi]
    obtain ⟨h1, h2⟩ := hrows i _ x hRi hx
    refine ⟨T, 0, [rowV n (Rs[i]'(by omega))], rfl, ⟨_, rfl, ?_⟩, rfl, fun j u hu => ?_⟩
    · exact rd_flat' (by omega) (by omega) (fun x _ => encD_len x) fun j u hu => by rw [Nat.zero_add]; exact h2.cell hu
    · have hj : j = 0 := by have := (List.getElem?_eq_some_iff.1 hu).1; simp at this; omega
      subst hj
      simp only [List.getElem?_cons_zero, Option.some.injEq] at hu
      subst hu
      rw [Nat.zero_add, Nat.mul_one, Nat.add_zero]
      exact hT.cell (by rw [List.getElem?_map, hRi]; rfl)
  · obtain ⟨i, hi, rfl⟩ := List.mem_iff_getElem.1 hrow
    have hRi : Rs[i]? = some (Rs[i]'(by omega)) := by simp [hR]
    exact (hrows i _ _ hRi (by simp [hi])).1
theorem TabOwn.ext {base n : Nat} {w w' : World} {v : Value} {t : List (List D)} (h : TabOwn base n w v t) (he : Ext w w') : TabOwn base n w' v t := by
  obtain ⟨T, Rs, h1, h2, h3, h4, h5, h6, h7, h8, h9⟩ := h
  exact ⟨T, Rs, h1, h2, h3, h4, h5, h6, h7, h8.ext he, fun i R row hR hrow => ⟨(h9 i R row hR hrow).1, (h9 i R row hR hrow).2.ext he⟩⟩
theorem TabOwn.other {base n : Nat} {w : World} {v : Value} {t : List (List D)} (h : TabOwn base n w v t) {b : Nat} (hb : b < base) (j : Nat) (u : Value) : TabOwn base n (w.setCell ⟨b, j, none⟩ u) v t := by
  obtain ⟨T, Rs, h1, h2, h3, h4, h5, h6, h7, h8, h9⟩ := h
  exact ⟨T, Rs, h1, h2, h3, h4, h5, h6, h7, h8.other (by omega) _ _, fun i R row hR hrow => ⟨(h9 i R row hR hrow).1, (h9 i R row hR hrow).2.other (by have := h7 R (List.mem_of_getElem? hR); omega) _ _⟩⟩
theorem TabOwn.mono {base base' n : Nat} {w : World} {v : Value} {t : List (List D)} (h : TabOwn base n w v t) (hb : base' ≤ base) : TabOwn base' n w v t := by
  obtain ⟨T, Rs, h1, h2, h3, h4, h5, h6, h7, h8, h9⟩ := h
  exact ⟨T, Rs, h1, by omega, h3, h4, h5, h6, fun R hR => by have := h7 R hR; omega, h8, h9⟩
def blankRow (n i : Nat) : List D := (List.range n).map fun k => if i = k then (0, 0) else (-1099511627776, 1099511627776)
def blankT (n : Nat) : List (List D) := (List.range n).map (blankRow n)
def partRow (n i k : Nat) : List D := (blankRow n i).take k ++ List.replicate (n - k) (0, 0)
theorem partRow_len (n i k : Nat) (h : k ≤ n) : (partRow n i k).length = n := by simp [partRow, blankRow]; omega
theorem partRow_all (n i : Nat) : partRow n i n = blankRow n i := by
  unfold partRow
  rw [List.take_of_length_le (by simp [blankRow]), Nat.sub_self]
  simp
theorem partRow_zero (n i : Nat) : partRow n i 0 = List.replicate n (0, 0) := by simp [partRow]
theorem partRow_succ (n i k : Nat) (h : k < n) : partRow n i (k + 1) = (partRow n i k).set k ((blankRow n i)[k]'(by simp [blankRow, h])) := by
  have hl : k < (blankRow n i).length := by simp [blankRow, h]
  unfold partRow
  have h1 : ((blankRow n i).take k).length = k := by rw [List.length_take]; omega
  rw [List.set_append_right _ _ (by omega), h1, Nat.sub_self, show n - k = (n - (k + 1)) + 1 by omega, List.replicate_succ, List.set_cons_zero, List.take_succ_eq_append_getElem hl, List.append_assoc]
  rfl
theorem blankRow_get (n i k : Nat) (h : k < n) : (blankRow n i)[k]'(by simp [blankRow, h]) = if i = k then (0, 0) else (-1099511627776, 1099511627776) := by simp [blankRow]
theorem partRow_same (n k : Nat) (h : k < n) : partRow n k (k + 1) = partRow n k k := by
  rw [partRow_succ n k k h, blankRow_get n k k h, if_pos rfl]
  have h1 : ((blankRow n k).take k).length = k := by rw [List.length_take]; simp [blankRow]; omega
  unfold partRow
  rw [List.set_append_right _ _ (by omega), h1, Nat.sub_self, show n - k = (n - (k + 1)) + 1 by omega, List.replicate_succ, List.set_cons_zero]
theorem flatD_set : ∀ (row : List D) (k : Nat) (p : D), k < row.length → ((row.flatMap encD).set (k * 2) (.int .i64 p.1)).set (k * 2 + 1) (.int .i64 p.2) = (row.set k p).flatMap encD
  | [], _, _, h => by simp at h
  | x :: l, 0, p, _ => by simp [encD]
  | x :: l, k + 1, p, h => by
    have ih := flatD_set l k p (by simpa using h)
    rw [show (k + 1) * 2 = k * 2 + 2 by omega, show k * 2 + 2 + 1 = (k * 2 + 1) + 2 by omega]
    simp only [List.flatMap_cons, encD, List.cons_append, List.nil_append, List.set_cons_succ] at ih ⊢
    rw [ih]
theorem flatD_get (row : List D) (k : Nat) (h : k < row.length) : (row.flatMap encD)[k * 2]? = some (.int .i64 row[k].1) ∧ (row.flatMap encD)[k * 2 + 1]? = some (.int .i64 row[k].2) :=
  ⟨by have := flat_get (enc := encD) (size := 2) (xs := row) (fun x _ => encD_len x) k row[k] (by simp [h]) 0 _ rfl; simpa using this,
   by have := flat_get (enc := encD) (size := 2) (xs := row) (fun x _ => encD_len x) k row[k] (by simp [h]) 1 _ rfl; simpa using this⟩
theorem info_row : (Try.prog.info? 152).map (fun i => (i.zero, i.size, i.bytes)) = some (some (.slice none 0 0), 1, 24) := by kernel_rfl
theorem info_diff : (Try.prog.info? 117).map (fun i => (i.zero, i.size, i.bytes)) = some (some (.agg #[.int .i64 0, .int .i64 0]), 2, 16) := by kernel_rfl
theorem made_slices (n : Nat) : madeCells (Value.slice none 0 0).cells (n * 1) = (List.replicate n (Value.slice none 0 0)).toArray := by
  apply Array.ext
  · simp [madeCells]
  · intro i h1 h2
    simp [madeCells, Value.cells, Nat.mod_one]
theorem made_diffs (n : Nat) : madeCells (Value.agg #[.int .i64 0, .int .i64 0]).cells (n * 2) = ((List.replicate n ((0, 0) : D)).flatMap encD).toArray := by
  have e : ((List.replicate n ((0, 0) : D)).flatMap encD) = List.replicate (n * 2) (.int .i64 0) := by
    induction n with
    | zero => rfl
    | succ n ih => rw [List.replicate_succ, List.flatMap_cons, ih, Nat.succ_mul]; rfl
  rw [e]
  apply Array.ext
  · simp [madeCells]
  · intro i h1 h2
    simp [madeCells, Value.cells]
    rcases Nat.mod_two_eq_zero_or_one i with h | h <;> simp [h]
theorem mk_outer (n : Nat) (hn : n ≤ 1000) (W : World) : (Instr.makeSlice 122 (.int .i64 n) (.int .i64 n)).run Try.prog W =
    .ok (.slice (some ⟨W.heap.size, 0, none⟩) n n) (W.alloc (.cells (List.replicate n (Value.slice none 0 0)).toArray 152)) := by
  obtain ⟨i0, hi, hz0, hz1, hz2⟩ := info_parts info_row
  have := run_make (P := Try.prog) W 122 152 i0 (.slice none 0 0) Try.underlying122 hi hz0 .i64 .i64 n n (by omega) (by omega) (by rw [hz2]; omega) (by omega)
  rw [hz1, Int.toNat_natCast, made_slices] at this
  exact this
theorem mk_inner (n : Nat) (hn : n ≤ 1000) (W : World) : (Instr.makeSlice 152 (.int .i64 n) (.int .i64 n)).run Try.prog W =
    .ok (.slice (some ⟨W.heap.size, 0, none⟩) n n) (W.alloc (.cells ((List.replicate n ((0, 0) : D)).flatMap encD).toArray 117)) := by
  obtain ⟨i0, hi, hz0, hz1, hz2⟩ := info_parts info_diff
  have := run_make (P := Try.prog) W 152 117 i0 (.agg #[.int .i64 0, .int .i64 0]) Try.underlying152 hi hz0 .i64 .i64 n n (by omega) (by omega) (by rw [hz2]; omega) (by omega)
  rw [hz1, Int.toNat_natCast, made_diffs] at this
  exact this
def outer (n : Nat) (Rs : List Nat) : List Value := Rs.map (rowV n) ++ List.replicate (n - Rs.length) (.slice none 0 0)
def RowsOwn (n : Nat) (w : World) (Rs : List Nat) : Prop := ∀ i R, Rs[i]? = some R → OwnB w R 117 ((blankRow n i).flatMap encD)
theorem outer_get {n k : Nat} {Rs : List Nat} (h : Rs.length = k) (hk : k < n) : (outer n Rs)[k]? = some (.slice none 0 0) := by
  unfold outer
  rw [List.getElem?_append_right (by rw [List.length_map]; omega), List.length_map, h, Nat.sub_self, List.getElem?_replicate, if_pos (by omega)]
theorem outer_set {n k : Nat} {Rs : List Nat} (h : Rs.length = k) (hk : k < n) (R : Nat) : (outer n Rs).set k (rowV n R) = outer n (Rs ++ [R]) := by
  unfold outer
  rw [List.set_append_right _ _ (by rw [List.length_map]; omega), List.length_map, h, Nat.sub_self, show n - k = (n - (k + 1)) + 1 by omega, List.replicate_succ, List.set_cons_zero, List.map_append, List.length_append, h]
  simp
theorem outer_last {n k : Nat} {Rs : List Nat} (h : Rs.length = k) (R : Nat) : (outer n (Rs ++ [R]))[k]? = some (rowV n R) := by
  unfold outer
  rw [List.getElem?_append_left (by simp; omega), List.map_append, List.getElem?_append_right (by simp; omega)]
  simp [h]
set_option maxRecDepth 100000 in
set_option maxHeartbeats 1000000 in
theorem blank_any (n : Nat) (w : World) (hn : n ≤ 1000) : Calls Try.prog 119 #[.int .i64 n] w fun e w' => ∃ v, e = .returned v ∧ TabOwn w.heap.size n w' v (blankT n) ∧ Ext w w' := by
  have hm1 := mk_outer n hn
  have hm2 := mk_inner n hn
  have HL := Lib.hid (OwnB.laid w 152 (List.replicate n (.slice none 0 0)))
  generalize hC1 : (List.replicate n (Value.slice none 0 0)).toArray = C1 at hm1
  generalize hC2 : ((List.replicate n ((0, 0) : D)).flatMap encD).toArray = C2 at hm2
  have HC1 := Lib.hid hC1
  have HC2 := Lib.hid hC2
  clear hC1 hC2
  go_enter Try.func119, Try.ntmps119
  go_wp2
  go_loopw [10] (fun i wr => ∃ (k : Nat) (Rs : List Nat), i = .int .i64 k ∧ k ≤ n ∧ Ext w wr ∧ Rs.length = k ∧ (∀ R ∈ Rs, w.heap.size < R ∧ R < wr.heap.size) ∧ Rs.Nodup ∧ OwnB wr w.heap.size 152 (outer n Rs) ∧ RowsOwn n wr Rs) (fun i _ => n - (intOf i).toNat)
  case atStart =>
    refine ⟨0, [], rfl, Nat.zero_le _, Ext.alloc _ _, rfl, by simp, List.nodup_nil, ?_, by intro i R h; simp at h⟩
    have := HL.out
    rw [HC1.out] at this
    simpa [outer] using this
  case round =>
    obtain ⟨k, Rs, rfl, hk, hE, hlen, hRs, hnd, hT, hrows⟩ := hrel
    have hTl := hT.lt
    by_cases hlt : k < n
    · have ct : wr.cell? ⟨w.heap.size, k, none⟩ = some (.slice none 0 0) := hT.cell (outer_get hlen hlt)
      have ft := hT.frozen k
      have HT := Lib.hid hT
      have HR := Lib.hid hrows
      have HS := Lib.hid hRs
      have HN := Lib.hid hnd
      clear hT hrows hRs hnd
      have HLen := Lib.hid hlen
      clear hlen
      obtain ⟨wo, rfl⟩ : ∃ wo : World, wo = wr := ⟨_, rfl⟩
      go_wp2
      go_loopw [23] (fun j w2 => ∃ m : Nat, j = .int .i64 m ∧ m ≤ n ∧ Ext w w2 ∧ OwnB w2 w.heap.size 152 (outer n (Rs ++ [wo.heap.size])) ∧ RowsOwn n w2 Rs ∧ OwnB w2 wo.heap.size 117 ((partRow n k m).flatMap encD)) (fun j _ => n - (intOf j).toNat)
      case atStart =>
        refine ⟨0, rfl, Nat.zero_le _, (ext_own hE (Nat.le_refl _) _).trans (Ext.alloc _ _), ?_, ?_, ?_⟩
        · have := (HT.out.set k (rowV n wo.heap.size)).ext (Ext.alloc _ (.cells C2 117))
          rwa [outer_set HLen.out hlt] at this
        · intro i R hR
          have hlt2 := (HS.out R (List.mem_of_getElem? hR)).1
          exact ((HR.out i R hR).other (by omega) k _).ext (Ext.alloc _ _)
        · have := OwnB.laid (wo.setCell ⟨w.heap.size, k, none⟩ (rowV n wo.heap.size)) 117 ((List.replicate n ((0, 0) : D)).flatMap encD)
          rw [World.size_setCell, HC2.out] at this
          rw [partRow_zero]
          exact this
      case round =>
        obtain ⟨m, rfl, hm, hE2, hT2, hrows2, hrow⟩ := hrel
        have hTl2 := hT2.lt
        have hRl2 := hrow.lt
        by_cases hlm : m < n
        · have ct2 : wr.cell? ⟨w.heap.size, k, none⟩ = some (.slice (some ⟨wo.heap.size, 0, none⟩) n n) := hT2.cell (outer_last HLen.out _)
          have hpl := partRow_len n k m (by omega)
          have hg := flatD_get (partRow n k m) m (by omega)
          generalize (partRow n k m)[m]'(by omega) = pm at hg
          have cr1 := hrow.cell hg.1
          have cr2 := hrow.cell hg.2
          have fr1 := hrow.frozen (m * 2)
          have fr2 := hrow.frozen (m * 2 + 1)
          have HT2 := Lib.hid hT2
          have HR2 := Lib.hid hrows2
          have HW2 := Lib.hid hrow
          have HPl := Lib.hid hpl
          clear hT2 hrows2 hrow hg hpl ct ft
          by_cases hkm : k = m
          · have hne : ((k : Int) != (m : Int)) = false := by simp [hkm]
            have HK := Lib.hid hkm
            clear hkm
            go_wp2
            go_roundw
            case rel => exact ⟨m + 1, by go_num, by omega, hE2, HT2.out, HR2.out, by have := HW2.out; rw [← HK.out] at this ⊢; rwa [partRow_same n k hlt]⟩
            case measure => simp [intOf]; omega
          · have hne : ((k : Int) != (m : Int)) = true := by rw [bne_iff_ne]; omega
            have HK := Lib.hid hkm
            clear hkm
            go_wp2
            go_roundw
            case rel =>
              have hRw : w.heap.size ≠ wo.heap.size := by omega
              refine ⟨m + 1, by go_num, by omega, ext_own (ext_own hE2 (by omega) _) (by omega) _, (HT2.out.other hRw _ _).other hRw _ _, ?_, ?_⟩
              · intro i R hR
                have hlt2 := (HS.out R (List.mem_of_getElem? hR)).2
                exact ((HR2.out i R hR).other (by omega) _ _).other (by omega) _ _
              · have := (HW2.out.set (m * 2) (.int .i64 (-1099511627776))).set (m * 2 + 1) (.int .i64 1099511627776)
                rw [partRow_succ n k m hlm, blankRow_get n k m hlm, if_neg HK.out]
                rw [← flatD_set _ _ _ (by rw [HPl.out]; exact hlm)]
                exact this
            case measure => simp [intOf]; omega
        · obtain rfl : m = n := by omega
          have HT2 := Lib.hid hT2
          have HR2 := Lib.hid hrows2
          have HW2 := Lib.hid hrow
          clear hT2 hrows2 hrow ct ft
          go_wp2
          go_roundw
          case rel =>
            refine ⟨k + 1, Rs ++ [wo.heap.size], by go_num, by omega, hE2, by rw [List.length_append, HLen.out]; rfl, ?_, ?_, HT2.out, ?_⟩
            · intro R hR
              rcases List.mem_append.1 hR with h | h
              · have := HS.out R h
                omega
              · simp only [List.mem_singleton] at h
                omega
            · refine List.nodup_append.2 ⟨HN.out, by simp, fun a ha b hb => ?_⟩
              simp only [List.mem_singleton] at hb
              have := HS.out a ha
              omega
            · intro i R hR
              rcases Nat.lt_or_ge i Rs.length with h | h
              · rw [List.getElem?_append_left h] at hR
                exact HR2.out i R hR
              · rw [List.getElem?_append_right h] at hR
                have hi : i - Rs.length = 0 := by have := (List.getElem?_eq_some_iff.1 hR).1; simp at this; omega
                rw [hi] at hR
                simp only [List.getElem?_cons_zero, Option.some.injEq] at hR
                have := HW2.out
                rw [partRow_all] at this
                rw [← hR, show i = k by have := HLen.out; omega]
                exact this
          case measure => simp [intOf]; omega
    · obtain rfl : k = n := by omega
      have HT := Lib.hid hT
      have HR := Lib.hid hrows
      clear hT hrows
      go_wp2
      go_ret
      refine ⟨_, rfl, ⟨w.heap.size, Rs, rfl, Nat.le_refl _, by simp [blankT], hlen, fun h => by have := hRs _ h; omega, hnd, fun R hR => by have := hRs R hR; omega, ?_, fun i R row hR hrow => ?_⟩, hE⟩
      · have := HT.out
        unfold outer at this
        rw [hlen, Nat.sub_self] at this
        simpa using this
      · have hi : i < k := by have := (List.getElem?_eq_some_iff.1 hR).1; omega
        have e : row = blankRow k i := by simpa [blankT, hi] using hrow.symm
        subst e
        exact ⟨by simp [blankRow], HR.out i R hR⟩
end Go.Proofs.Ytebfnjabgkhngaa
end
section
set_option linter.all false
set_option linter.unusedVariables false
set_option linter.unusedSimpArgs false
set_option linter.constructorNameAsVariable false
set_option linter.unusedVariables false
namespace Go.Proofs.Ytebfnjabgkhngaa
open Go.RowKit Go.RT
def tget (t : List (List D)) (i k : Nat) : D := ((t[i]?).getD [])[k]?.getD (0, 0)
def both2 (p q : D) : D := (max p.1 q.1, min p.2 q.2)
def plus2 (p q : D) : D := (plusLo p.1 q.1, plusHi p.2 q.2)
def turn2 (p : D) : D := (-p.2, -p.1)
def withE (t : List (List D)) (i j : Nat) (d : D) (a b : Nat) : D :=
  both2 (both2 (tget t a b) (plus2 (plus2 (tget t a i) d) (tget t j b))) (plus2 (plus2 (tget t a j) (turn2 d)) (tget t i b))
def withRow (n : Nat) (t : List (List D)) (i j : Nat) (d : D) (a : Nat) : List D := (List.range n).map (withE t i j d a)
def withT (n : Nat) (t : List (List D)) (i j : Nat) (d : D) : Option (List (List D)) :=
  if (both2 d (tget t i j)).2 < (both2 d (tget t i j)).1 then none else some ((List.range n).map (withRow n t i j (both2 d (tget t i j))))
def Bd (p : D) : Prop := -1099511627776 ≤ p.1 ∧ p.1 ≤ 1099511627776 ∧ -1099511627776 ≤ p.2 ∧ p.2 ≤ 1099511627776
def TabBd (n : Nat) (t : List (List D)) : Prop := ∀ i k, i < n → k < n → Bd (tget t i k)
theorem tab_some {n c : Nat} {w : World} {A : Option Addr} {t : List (List D)} (h : TabRd n w (.slice A n c) t) (hn : 0 < n) : ∃ b o, A = some ⟨b, o, none⟩ := by
  obtain ⟨⟨A', c', h1, h2, h3⟩, h4, h5⟩ := h
  cases h1
  obtain ⟨b, o, cs, h6, _⟩ := h3 0 (t[0]'(by omega)) (by simp [h4, hn])
  exact ⟨b, o, h6⟩
theorem tab_at {n c b o : Nat} {w : World} {t : List (List D)} (h : TabRd n w (.slice (some ⟨b, o, none⟩) n c) t) (i : Nat) (hi : i < n) :
    ∃ b1 o1 c1, w.cell? ⟨b, o + i, none⟩ = some (.slice (some ⟨b1, o1, none⟩) n c1) ∧ ∀ k, k < n → w.cell? ⟨b1, o1 + k * 2, none⟩ = some (.int .i64 (tget t i k).1) ∧ w.cell? ⟨b1, o1 + k * 2 + 1, none⟩ = some (.int .i64 (tget t i k).2) := by
  obtain ⟨⟨A', c', h1, h2, h3⟩, h4, h5⟩ := h
  have hlen : i < t.length := by omega
  obtain ⟨b', o', cs, h6, ⟨u, rfl, hu⟩, _, h7⟩ := h3 i t[i] (by simp [hlen])
  simp only [Value.slice.injEq] at h1
  obtain ⟨rfl, rfl, rfl⟩ := h1
  simp only [Option.some.injEq, Addr.mk.injEq, and_true] at h6
  obtain ⟨rfl, rfl⟩ := h6
  have hr : (t[i]).length = t.length := by rw [h5 _ (List.getElem_mem hlen)]
  have c0 := h7 0 u rfl
  obtain ⟨A1, c1, rfl, _⟩ := hu.form
  have e : ∀ k (hk : k < t.length), tget t i k = (t[i])[k]'(by omega) := fun k hk => by
    unfold tget
    simp [hlen, hr, hk]
  obtain ⟨b1, o1, rfl, _⟩ := hu.at_ i (by omega)
  refine ⟨b1, o1, c1, by rw [hr] at c0; simpa using c0, fun k hk => ?_⟩
  obtain ⟨b2, o2, h8, h9⟩ := hu.at_ k (by omega)
  simp only [Option.some.injEq, Addr.mk.injEq, and_true] at h8
  obtain ⟨rfl, rfl⟩ := h8
  rw [e k hk]
  exact ⟨h9 0 _ rfl, h9 1 _ rfl⟩
def allocSp (cs : List Value) (T : TypeId) (base : Nat) : Sp :=
  ⟨fun v => ∃ b : Nat, base ≤ b ∧ v = .pointer (some ⟨b, 0, none⟩), ⟨_, base, Nat.le_refl _, rfl⟩, fun _ v w => ∀ b : Nat, v = .pointer (some ⟨b, 0, none⟩) → OwnB w b T cs⟩
theorem allocSp_stable (cs : List Value) (T : TypeId) (base : Nat) : (allocSp cs T base).stable := fun xs v w w' h he b hb => (h b hb).ext he
theorem made_val {P : Program} {Eff : Nat → World → World → Prop} {Q : Exit → Act → World → Prop} {k : Nat} {s : Sp} {o : Oper} {a : Act} {w w' : World} {v : Value}
    (hr : (execOp a.eval o).run P w = .ok (.value v) w') (h1 : s.rng v) (h2 : s.fact (opvals o a) v w') (h3 : Eff k w w') : Made P Eff Q k s o a w := by
  unfold Made Oper.wp
  rw [hr]
  exact ⟨v, rfl, h1, h2, h3⟩
def prow (n : Nat) (t : List (List D)) (i j : Nat) (d : D) (a b r : Nat) : List D :=
  if r < a then withRow n t i j d r else if r = a then (withRow n t i j d a).take b ++ (blankRow n a).drop b else blankRow n r
def WithPost (n : Nat) (t : List (List D)) (i j : Nat) (d : D) (w : World) (e : Ending) (w' : World) : Prop :=
  (match withT n t i j d with
    | none => e = .returned (.tuple #[.slice none 0 0, .bool false])
    | some t' => ∃ v', e = .returned (.tuple #[v', .bool true]) ∧ TabOwn w.heap.size n w' v' t') ∧ Ext w w'
theorem plusLo_bd {a c : Int} (h1 : -1099511627776 ≤ a) (h2 : a ≤ 1099511627776) (h3 : -1099511627776 ≤ c) (h4 : c ≤ 1099511627776) : -2199023255552 ≤ plusLo a c ∧ plusLo a c ≤ 2199023255552 := by unfold plusLo; split <;> omega
theorem plusHi_bd {a c : Int} (h1 : -1099511627776 ≤ a) (h2 : a ≤ 1099511627776) (h3 : -1099511627776 ≤ c) (h4 : c ≤ 1099511627776) : -2199023255552 ≤ plusHi a c ∧ plusHi a c ≤ 2199023255552 := by unfold plusHi; split <;> omega
def Bd2 (p : D) : Prop := -2199023255552 ≤ p.1 ∧ p.1 ≤ 2199023255552 ∧ -2199023255552 ≤ p.2 ∧ p.2 ≤ 2199023255552
theorem plus2_bd {p q : D} (hp : Bd p) (hq : Bd q) : Bd2 (plus2 p q) :=
  ⟨(plusLo_bd hp.1 hp.2.1 hq.1 hq.2.1).1, (plusLo_bd hp.1 hp.2.1 hq.1 hq.2.1).2, (plusHi_bd hp.2.2.1 hp.2.2.2 hq.2.2.1 hq.2.2.2).1, (plusHi_bd hp.2.2.1 hp.2.2.2 hq.2.2.1 hq.2.2.2).2⟩
theorem Bd.two {p : D} (h : Bd p) : Bd2 p := by unfold Bd at h; unfold Bd2; omega
theorem turn2_bd {p : D} (h : Bd p) : Bd (turn2 p) := by unfold Bd turn2 at *; dsimp only; omega
theorem plusD (p q : D) (w : World) (hp : Bd2 p) (hq : Bd q) :
    CallsVal 120 #[.agg #[.int .i64 p.1, .int .i64 p.2], .agg #[.int .i64 q.1, .int .i64 q.2]] w (.agg #[.int .i64 (plus2 p q).1, .int .i64 (plus2 p q).2]) := by
  have hq' := hq.two
  exact plus_any _ _ _ _ _ hp.1 hp.2.1 hp.2.2.1 hp.2.2.2 hq'.1 hq'.2.1 hq'.2.2.1 hq'.2.2.2
theorem turnD (p : D) (w : World) (hp : Bd p) :
    CallsVal 121 #[.agg #[.int .i64 p.1, .int .i64 p.2]] w (.agg #[.int .i64 (turn2 p).1, .int .i64 (turn2 p).2]) := by
  have hp' := hp.two
  exact turned_any _ _ _ hp'.1 hp'.2.1 hp'.2.2.1 hp'.2.2.2
theorem prow_len (n : Nat) (t : List (List D)) (i j : Nat) (d : D) (a b r : Nat) (hb : b ≤ n) : (prow n t i j d a b r).length = n := by
  unfold prow withRow blankRow
  split
  · simp
  · split
    · simp; omega
    · simp
theorem prow_zero (n : Nat) (t : List (List D)) (i j : Nat) (d : D) (r : Nat) : prow n t i j d 0 0 r = blankRow n r := by
  unfold prow
  rw [if_neg (by omega)]
  split
  · rename_i h; subst h; simp
  · rfl
theorem prow_next (n : Nat) (t : List (List D)) (i j : Nat) (d : D) (a r : Nat) : prow n t i j d a n r = prow n t i j d (a + 1) 0 r := by
  have h1 : (withRow n t i j d a).take n = withRow n t i j d a := List.take_of_length_le (by simp [withRow])
  have h2 : (blankRow n a).drop n = [] := List.drop_of_length_le (by simp [blankRow])
  unfold prow
  by_cases h : r < a
  · rw [if_pos h, if_pos (by omega)]
  · by_cases h' : r = a
    · subst h'
      rw [if_neg h, if_pos rfl, if_pos (by omega), h1, h2, List.append_nil]
    · rw [if_neg h, if_neg h', if_neg (by omega)]
      by_cases h3 : r = a + 1
      · subst h3; simp
      · rw [if_neg h3]
theorem prow_set (n : Nat) (t : List (List D)) (i j : Nat) (d : D) (a b : Nat) (hb : b < n) : prow n t i j d a (b + 1) a = (prow n t i j d a b a).set b (withE t i j d a b) := by
  unfold prow
  rw [if_neg (by omega), if_pos rfl, if_neg (by omega), if_pos rfl]
  have hl : b < (withRow n t i j d a).length := by simp [withRow, hb]
  have hl2 : b < (blankRow n a).length := by simp [blankRow, hb]
  have h1 : ((withRow n t i j d a).take b).length = b := by rw [List.length_take]; omega
  rw [List.set_append_right _ _ (by omega), h1, Nat.sub_self, List.drop_eq_getElem_cons hl2, List.set_cons_zero, List.take_succ_eq_append_getElem hl, List.append_assoc]
  have e : (withRow n t i j d a)[b] = withE t i j d a b := by simp [withRow]
  rw [e]
  rfl
theorem prow_other (n : Nat) (t : List (List D)) (i j : Nat) (d : D) (a b b' r : Nat) (h : r ≠ a) : prow n t i j d a b r = prow n t i j d a b' r := by
  unfold prow
  simp only [h, if_false]
def RowsAt (n : Nat) (t : List (List D)) (i j : Nat) (d : D) (w : World) (Rs : List Nat) (a b : Nat) : Prop := ∀ r R, Rs[r]? = some R → OwnB w R 117 ((prow n t i j d a b r).flatMap encD)
theorem RowsAt.ext {n : Nat} {t : List (List D)} {i j : Nat} {d : D} {w w' : World} {Rs : List Nat} {a b : Nat} (h : RowsAt n t i j d w Rs a b) (he : Ext w w') : RowsAt n t i j d w' Rs a b := fun r R hR => (h r R hR).ext he
theorem RowsAt.other {n : Nat} {t : List (List D)} {i j : Nat} {d : D} {w : World} {Rs : List Nat} {a b : Nat} (h : RowsAt n t i j d w Rs a b) {b' : Nat} (hb : ∀ R ∈ Rs, R ≠ b') (k : Nat) (v : Value) : RowsAt n t i j d (w.setCell ⟨b', k, none⟩ v) Rs a b :=
  fun r R hR => (h r R hR).other (hb R (List.mem_of_getElem? hR)) k v
set_option maxRecDepth 100000 in
set_option maxHeartbeats 4000000 in
theorem with_any (n : Nat) (v : Value) (t : List (List D)) (i j : Nat) (lo hi : Int) (w : World) (hn : n ≤ 1000) (hin : i < n) (hjn : j < n) (ht : TabRd n w v t) (hbd : TabBd n t) (hlo : -1099511627776 ≤ lo) (hlo' : lo ≤ 1099511627776) (hhi : -1099511627776 ≤ hi) (hhi' : hi ≤ 1099511627776) :
    Calls Try.prog 68 #[v, .agg #[.int .i64 i, .int .i64 j, .int .i64 lo, .int .i64 hi]] w (WithPost n t i j (lo, hi) w) := by
  obtain ⟨A, c, hv, hlen⟩ := ht.1.form
  rw [ht.2.1] at hv
  subst hv
  obtain ⟨tb, to, rfl⟩ := tab_some ht (by omega)
  obtain ⟨b1, o1, c1, h1, h2⟩ := tab_at ht i hin
  obtain ⟨h3, h4⟩ := h2 j hjn
  clear h2
  have HTab := Lib.hid ht
  have HBd := Lib.hid hbd
  have HF0 := Lib.hid (OwnB.laid w 119 [.int .i64 i, .int .i64 j, .int .i64 lo, .int .i64 hi])
  clear ht hbd
  go_enter Try.func68, Try.ntmps68
  go_wp2
  refine region_ext 13 [(12, allocSp [.int .i64 0, .int .i64 0] 117 (w.heap.size + 1))] (by kernel_rfl) (by kernel_rfl) ⟨allocSp_stable _ _ _, trivial⟩ ?_
  simp only [List.take_succ_cons, List.take_zero, List.drop_succ_cons, List.drop_zero]
  refine wpR_val (v := ?_) ?_ ?_ (fun w1 hS hK => ?_) ?_
  rotate_left
  · rfl
  · rfl
  · clear hK hS
    go_simp
    with_reducible rfl
  simp only [Act.put, List.setIfInBounds_toArray, List.set_cons_zero, List.set_cons_succ]
  refine wpR_val (v := ?_) ?_ ?_ (fun w1 hS hK => ?_) ?_
  rotate_left
  · rfl
  · rfl
  · have E1 := (Ext.alloc _ _).trans hS
    have k1 := E1.cell h1
    have k2 := E1.cell h3
    have k3 := E1.cell h4
    obtain ⟨hc, hf⟩ := hS.rules
    simp only [World.size_alloc] at hc hf
    clear hK hS E1
    go_simp
    with_reducible rfl
  simp only [Act.put, List.setIfInBounds_toArray, List.set_cons_zero, List.set_cons_succ]
  refine wpR_val (v := ?_) ?_ ?_ (fun w1 hS hK => ?_) ?_
  rotate_left
  · rfl
  · rfl
  · clear hK hS
    go_simp
    with_reducible rfl
  simp only [Act.put, List.setIfInBounds_toArray, List.set_cons_zero, List.set_cons_succ]
  refine wpR_val (v := ?_) ?_ ?_ (fun w1 hS hK => ?_) ?_
  rotate_left
  · rfl
  · rfl
  · clear hK hS
    go_simp
    with_reducible rfl
  simp only [Act.put, List.setIfInBounds_toArray, List.set_cons_zero, List.set_cons_succ]
  refine wpR_val (v := ?_) ?_ ?_ (fun w1 hS hK => ?_) ?_
  rotate_left
  · rfl
  · rfl
  · have E1 := (Ext.alloc _ _).trans hS
    have k1 := E1.cell h1
    have k2 := E1.cell h3
    have k3 := E1.cell h4
    obtain ⟨hc, hf⟩ := hS.rules
    simp only [World.size_alloc] at hc hf
    clear hK hS E1
    go_simp
    with_reducible rfl
  simp only [Act.put, List.setIfInBounds_toArray, List.set_cons_zero, List.set_cons_succ]
  refine wpR_val (v := ?_) ?_ ?_ (fun w1 hS hK => ?_) ?_
  rotate_left
  · rfl
  · rfl
  · have E1 := (Ext.alloc _ _).trans hS
    have k1 := E1.cell h1
    have k2 := E1.cell h3
    have k3 := E1.cell h4
    obtain ⟨hc, hf⟩ := hS.rules
    simp only [World.size_alloc] at hc hf
    clear hK hS E1
    go_simp
    with_reducible rfl
  simp only [Act.put, List.setIfInBounds_toArray, List.set_cons_zero, List.set_cons_succ]
  refine wpR_val (v := ?_) ?_ ?_ (fun w1 hS hK => ?_) ?_
  rotate_left
  · rfl
  · rfl
  · have E1 := (Ext.alloc _ _).trans hS
    have k1 := E1.cell h1
    have k2 := E1.cell h3
    have k3 := E1.cell h4
    obtain ⟨hc, hf⟩ := hS.rules
    simp only [World.size_alloc] at hc hf
    clear hK hS E1
    go_simp
    with_reducible rfl
  simp only [Act.put, List.setIfInBounds_toArray, List.set_cons_zero, List.set_cons_succ]
  refine wpR_val (v := ?_) ?_ ?_ (fun w1 hS hK => ?_) ?_
  rotate_left
  · rfl
  · rfl
  · clear hK hS
    go_simp
    with_reducible rfl
  simp only [Act.put, List.setIfInBounds_toArray, List.set_cons_zero, List.set_cons_succ]
  refine wpR_val (v := ?_) ?_ ?_ (fun w1 hS hK => ?_) ?_
  rotate_left
  · rfl
  · rfl
  · have E1 := (Ext.alloc _ _).trans hS
    have k1 := E1.cell h1
    have k2 := E1.cell h3
    have k3 := E1.cell h4
    obtain ⟨hc, hf⟩ := hS.rules
    simp only [World.size_alloc] at hc hf
    clear hK hS E1
    go_simp
    with_reducible rfl
  simp only [Act.put, List.setIfInBounds_toArray, List.set_cons_zero, List.set_cons_succ]
  refine wpR_val (v := ?_) ?_ ?_ (fun w1 hS hK => ?_) ?_
  rotate_left
  · rfl
  · rfl
  · have E1 := (Ext.alloc _ _).trans hS
    have k1 := E1.cell h1
    have k2 := E1.cell h3
    have k3 := E1.cell h4
    obtain ⟨hc, hf⟩ := hS.rules
    simp only [World.size_alloc] at hc hf
    clear hK hS E1
    go_simp
    with_reducible rfl
  simp only [Act.put, List.setIfInBounds_toArray, List.set_cons_zero, List.set_cons_succ]
  refine wpR_val (v := ?_) ?_ ?_ (fun w1 hS hK => ?_) ?_
  rotate_left
  · rfl
  · rfl
  · have E1 := (Ext.alloc _ _).trans hS
    have k1 := E1.cell h1
    have k2 := E1.cell h3
    have k3 := E1.cell h4
    obtain ⟨hc, hf⟩ := hS.rules
    simp only [World.size_alloc] at hc hf
    clear hK hS E1
    go_simp
    with_reducible rfl
  simp only [Act.put, List.setIfInBounds_toArray, List.set_cons_zero, List.set_cons_succ]
  refine wpR_call (v := ?_) (f := ?_) (args := ?_) ?_ ?_ (fun w => ?_) ?_ (fun w1 hS hK => ?_) ?_
  rotate_left 3
  · rfl
  · rfl
  · go_simp
    refine ⟨?_, ?_⟩ <;> rfl
  · kernel_rfl
  · exact both_any _ _ _ _ _
  simp only [Act.put, List.setIfInBounds_toArray, List.set_cons_zero, List.set_cons_succ]
  refine wpR_made (by rfl) (by rfl) (fun w1 hS hK => ?_) (fun v hv => ?_)
  · exact made_val (v := .pointer (some ⟨w1.heap.size, 0, none⟩)) (w' := w1.alloc (.cells [.int .i64 0, .int .i64 0].toArray 117)) (by go_simp) ⟨_, by have := hS.size; simpa using this, rfl⟩ (fun b hb => by cases hb; exact OwnB.laid _ _ _) (Ext.alloc _ _)
  simp only [Act.put, List.setIfInBounds_toArray, List.set_cons_zero, List.set_cons_succ]
  intro w2 E2 L2
  obtain ⟨bd, hb, rfl⟩ := hv
  have hown := L2.1 _ rfl
  have E02 := (Ext.alloc _ _).trans E2
  have HF2 := Lib.hid (HF0.out.ext E2)
  have cb0 := hown.cell (j := 0) rfl
  have cb1 := hown.cell (j := 1) rfl
  have fb0 := hown.frozen 0
  have fb1 := hown.frozen 1
  have hbl := hown.lt
  have HO := Lib.hid hown
  clear hown L2 E2 h1 h3 h4 HF0
  have hx0 := (HBd.out i j hin hjn)
  obtain ⟨x1, x2, x3, x4⟩ := hx0
  by_cases hgt : min hi (tget t i j).2 < max lo (tget t i j).1
  · go_wp2
    go_ret2
    refine ⟨?_, ext_own (ext_own E02 (by omega) _) (by omega) _⟩
    have : withT n t i j (lo, hi) = none := by unfold withT both2; rw [if_pos hgt]
    rw [this]
    rfl
  · have hle : max lo (tget t i j).1 ≤ min hi (tget t i j).2 := by omega
    have hX1 : -1099511627776 ≤ max lo (tget t i j).1 := by omega
    have hX2 : max lo (tget t i j).1 ≤ 1099511627776 := by omega
    have hY1 : -1099511627776 ≤ min hi (tget t i j).2 := by omega
    have hY2 : min hi (tget t i j).2 ≤ 1099511627776 := by omega
    go_wp2_with fail
    have e0 : Ext w ((w2.setCell ⟨bd, 0, none⟩ (.int .i64 (max lo (tget t i j).1))).setCell ⟨bd, 1, none⟩ (.int .i64 (min hi (tget t i j).2))) := ext_own (ext_own E02 (by omega) _) (by omega) _
    have e1 := ((HF2.out.other (by omega) 0 (.int .i64 (max lo (tget t i j).1))).other (by omega) 1 (.int .i64 (min hi (tget t i j).2)) : OwnB ((w2.setCell ⟨bd, 0, none⟩ _).setCell ⟨bd, 1, none⟩ _) w.heap.size 119 _)
    have e2 := (HO.out.set 0 (.int .i64 (max lo (tget t i j).1))).set 1 (.int .i64 (min hi (tget t i j).2))
    simp only [List.set_cons_zero, List.set_cons_succ] at e2
    refine (blank_any n _ hn).mono ?_
    rintro e w3 ⟨v', rfl, hown, hE3⟩
    rw [World.size_setCell, World.size_setCell] at hown
    have E03 := e0.trans hE3
    have HF3 := Lib.hid (e1.ext hE3)
    have HB3 := Lib.hid (e2.ext hE3)
    clear e0 e1 e2 hE3 HF2 HO cb0 cb1 fb0 fb1
    have hw2l : w.heap.size ≤ w2.heap.size := E02.size
    clear E02
    obtain ⟨T, Rs, rfl, hTb, _, hRl, hTR, hnd, hRb, hT, hrows⟩ := hown
    have HT3 := Lib.hid hT
    have hrows0 : RowsAt n t i j (max lo (tget t i j).1, min hi (tget t i j).2) w3 Rs 0 0 := fun r R hR => by
      have hr : r < n := by have := (List.getElem?_eq_some_iff.1 hR).1; omega
      rw [prow_zero]
      exact (hrows r R (blankRow n r) hR (by simp [blankT, hr])).2
    have HR3 := Lib.hid hrows0
    have HTR := Lib.hid hTR
    have HND := Lib.hid hnd
    have HRb := Lib.hid hRb
    have HRl := Lib.hid hRl
    clear hT hrows hrows0 hTR hnd hRb hRl
    have HXY : Hid (Bd (max lo (tget t i j).1, min hi (tget t i j).2)) := Lib.hid ⟨hX1, hX2, hY1, hY2⟩
    clear hX1 hX2 hY1 hY2 hlo hlo' hhi hhi' x1 x2 x3 x4
    generalize hX : max lo (tget t i j).1 = X at *
    generalize hY : min hi (tget t i j).2 = Y at *
    have HX := Lib.hid hX
    have HY := Lib.hid hY
    have HLe := Lib.hid hle
    clear hX hY hle hgt
    go_wp2
    go_loopw [34] (fun q wr => ∃ a : Nat, q = .int .i64 a ∧ a ≤ n ∧ Ext w wr ∧ OwnB wr w.heap.size 119 [.int .i64 i, .int .i64 j, .int .i64 lo, .int .i64 hi] ∧ OwnB wr bd 117 [.int .i64 X, .int .i64 Y] ∧ OwnB wr T 152 (Rs.map (rowV n)) ∧ RowsAt n t i j (X, Y) wr Rs a 0) (fun q _ => n - (intOf q).toNat)
    case atStart => exact ⟨0, rfl, Nat.zero_le _, E03, HF3.out, HB3.out, HT3.out, HR3.out⟩
    case round =>
      obtain ⟨a, rfl, ha, hE, hF, hB, hT, hR⟩ := hrel
      have HF := Lib.hid hF
      have HB := Lib.hid hB
      have HT := Lib.hid hT
      have HR := Lib.hid hR
      clear hF hB hT hR HF3 HB3 HT3 HR3 E03
      by_cases hlt : a < n
      · obtain ⟨wo, rfl⟩ : ∃ wo : World, wo = wr := ⟨_, rfl⟩
        go_wp2
        go_loopw [39] (fun q wr => ∃ m : Nat, q = .int .i64 m ∧ m ≤ n ∧ Ext w wr ∧ OwnB wr w.heap.size 119 [.int .i64 i, .int .i64 j, .int .i64 lo, .int .i64 hi] ∧ OwnB wr bd 117 [.int .i64 X, .int .i64 Y] ∧ OwnB wr T 152 (Rs.map (rowV n)) ∧ RowsAt n t i j (X, Y) wr Rs a m) (fun q _ => n - (intOf q).toNat)
        case atStart => exact ⟨0, rfl, Nat.zero_le _, hE, HF.out, HB.out, HT.out, HR.out⟩
        case round =>
          clear hE HF HB HT HR
          obtain ⟨m, rfl, hm, hE, hF, hB, hT, hR⟩ := hrel
          have HF := Lib.hid hF
          have HB := Lib.hid hB
          have HT := Lib.hid hT
          have HR := Lib.hid hR
          clear hF hB hT hR
          by_cases hlm : m < n
          · obtain ⟨ba, oa, ca, ra, ea⟩ := tab_at HTab.out a hlt
            obtain ⟨bj, oj, cj, rj, ej⟩ := tab_at HTab.out j hjn
            obtain ⟨bi, oi, ci, ri, ei⟩ := tab_at HTab.out i hin
            obtain ⟨ai1, ai2⟩ := ea i hin
            obtain ⟨aj1, aj2⟩ := ea j hjn
            obtain ⟨am1, am2⟩ := ea m hlm
            obtain ⟨jm1, jm2⟩ := ej m hlm
            obtain ⟨im1, im2⟩ := ei m hlm
            clear ea ej ei
            have hTl := HT.out.lt
            have hBl := HB.out.lt
            have hFl := HF.out.lt
            go_wp2
            refine region_ext 20 [(19, allocSp [.int .i64 0, .int .i64 0] 117 wr.heap.size)] (by kernel_rfl) (by kernel_rfl) ⟨allocSp_stable _ _ _, trivial⟩ ?_
            simp only [List.take_succ_cons, List.take_zero, List.drop_succ_cons, List.drop_zero]
            refine wpR_val (v := ?_) ?_ ?_ (fun w1 hS hK => ?_) ?_
            rotate_left
            · rfl
            · rfl
            · clear hK hS
              go_simp
              with_reducible rfl
            simp only [Act.put, List.setIfInBounds_toArray, List.set_cons_zero, List.set_cons_succ]
            refine wpR_val (v := ?_) ?_ ?_ (fun w1 hS hK => ?_) ?_
            rotate_left
            · rfl
            · rfl
            · clear hK hS
              go_simp
              with_reducible rfl
            simp only [Act.put, List.setIfInBounds_toArray, List.set_cons_zero, List.set_cons_succ]
            refine wpR_val (v := ?_) ?_ ?_ (fun w1 hS hK => ?_) ?_
            rotate_left
            · rfl
            · rfl
            · have E1 := (hE).trans hS
              have k1 := E1.cell ra
              have k2 := E1.cell ai1
              have k3 := E1.cell ai2
              have k4 := E1.cell rj
              have k5 := E1.cell jm1
              have k6 := E1.cell jm2
              have k7 := (HF.out.ext hS).cell (j := 0) rfl
              have k8 := (HF.out.ext hS).cell (j := 1) rfl
              have k9 := (HB.out.ext hS).cell (j := 0) rfl
              have k10 := (HB.out.ext hS).cell (j := 1) rfl
              clear hK hS E1
              go_simp
              with_reducible rfl
            simp only [Act.put, List.setIfInBounds_toArray, List.set_cons_zero, List.set_cons_succ]
            refine wpR_val (v := ?_) ?_ ?_ (fun w1 hS hK => ?_) ?_
            rotate_left
            · rfl
            · rfl
            · have E1 := (hE).trans hS
              have k1 := E1.cell ra
              have k2 := E1.cell ai1
              have k3 := E1.cell ai2
              have k4 := E1.cell rj
              have k5 := E1.cell jm1
              have k6 := E1.cell jm2
              have k7 := (HF.out.ext hS).cell (j := 0) rfl
              have k8 := (HF.out.ext hS).cell (j := 1) rfl
              have k9 := (HB.out.ext hS).cell (j := 0) rfl
              have k10 := (HB.out.ext hS).cell (j := 1) rfl
              clear hK hS E1
              go_simp
              with_reducible rfl
            simp only [Act.put, List.setIfInBounds_toArray, List.set_cons_zero, List.set_cons_succ]
            refine wpR_val (v := ?_) ?_ ?_ (fun w1 hS hK => ?_) ?_
            rotate_left
            · rfl
            · rfl
            · clear hK hS
              go_simp
              with_reducible rfl
            simp only [Act.put, List.setIfInBounds_toArray, List.set_cons_zero, List.set_cons_succ]
            refine wpR_val (v := ?_) ?_ ?_ (fun w1 hS hK => ?_) ?_
            rotate_left
            · rfl
            · rfl
            · have E1 := (hE).trans hS
              have k1 := E1.cell ra
              have k2 := E1.cell ai1
              have k3 := E1.cell ai2
              have k4 := E1.cell rj
              have k5 := E1.cell jm1
              have k6 := E1.cell jm2
              have k7 := (HF.out.ext hS).cell (j := 0) rfl
              have k8 := (HF.out.ext hS).cell (j := 1) rfl
              have k9 := (HB.out.ext hS).cell (j := 0) rfl
              have k10 := (HB.out.ext hS).cell (j := 1) rfl
              clear hK hS E1
              go_simp
              with_reducible rfl
            simp only [Act.put, List.setIfInBounds_toArray, List.set_cons_zero, List.set_cons_succ]
            refine wpR_val (v := ?_) ?_ ?_ (fun w1 hS hK => ?_) ?_
            rotate_left
            · rfl
            · rfl
            · have E1 := (hE).trans hS
              have k1 := E1.cell ra
              have k2 := E1.cell ai1
              have k3 := E1.cell ai2
              have k4 := E1.cell rj
              have k5 := E1.cell jm1
              have k6 := E1.cell jm2
              have k7 := (HF.out.ext hS).cell (j := 0) rfl
              have k8 := (HF.out.ext hS).cell (j := 1) rfl
              have k9 := (HB.out.ext hS).cell (j := 0) rfl
              have k10 := (HB.out.ext hS).cell (j := 1) rfl
              clear hK hS E1
              go_simp
              with_reducible rfl
            simp only [Act.put, List.setIfInBounds_toArray, List.set_cons_zero, List.set_cons_succ]
            refine wpR_val (v := ?_) ?_ ?_ (fun w1 hS hK => ?_) ?_
            rotate_left
            · rfl
            · rfl
            · have E1 := (hE).trans hS
              have k1 := E1.cell ra
              have k2 := E1.cell ai1
              have k3 := E1.cell ai2
              have k4 := E1.cell rj
              have k5 := E1.cell jm1
              have k6 := E1.cell jm2
              have k7 := (HF.out.ext hS).cell (j := 0) rfl
              have k8 := (HF.out.ext hS).cell (j := 1) rfl
              have k9 := (HB.out.ext hS).cell (j := 0) rfl
              have k10 := (HB.out.ext hS).cell (j := 1) rfl
              clear hK hS E1
              go_simp
              with_reducible rfl
            simp only [Act.put, List.setIfInBounds_toArray, List.set_cons_zero, List.set_cons_succ]
            refine wpR_val (v := ?_) ?_ ?_ (fun w1 hS hK => ?_) ?_
            rotate_left
            · rfl
            · rfl
            · have E1 := (hE).trans hS
              have k1 := E1.cell ra
              have k2 := E1.cell ai1
              have k3 := E1.cell ai2
              have k4 := E1.cell rj
              have k5 := E1.cell jm1
              have k6 := E1.cell jm2
              have k7 := (HF.out.ext hS).cell (j := 0) rfl
              have k8 := (HF.out.ext hS).cell (j := 1) rfl
              have k9 := (HB.out.ext hS).cell (j := 0) rfl
              have k10 := (HB.out.ext hS).cell (j := 1) rfl
              clear hK hS E1
              go_simp
              with_reducible rfl
            simp only [Act.put, List.setIfInBounds_toArray, List.set_cons_zero, List.set_cons_succ]
            refine wpR_call (v := ?_) (f := ?_) (args := ?_) ?_ ?_ (fun w => ?_) ?_ (fun w1 hS hK => ?_) ?_
            rotate_left 3
            · rfl
            · rfl
            · go_simp
              refine ⟨?_, ?_⟩ <;> rfl
            · kernel_rfl
            · exact plusD (tget t a i) (X, Y) _ (HBd.out a i hlt hin).two HXY.out
            simp only [Act.put, List.setIfInBounds_toArray, List.set_cons_zero, List.set_cons_succ]
            refine wpR_val (v := ?_) ?_ ?_ (fun w1 hS hK => ?_) ?_
            rotate_left
            · rfl
            · rfl
            · clear hK hS
              go_simp
              with_reducible rfl
            simp only [Act.put, List.setIfInBounds_toArray, List.set_cons_zero, List.set_cons_succ]
            refine wpR_val (v := ?_) ?_ ?_ (fun w1 hS hK => ?_) ?_
            rotate_left
            · rfl
            · rfl
            · clear hK hS
              go_simp
              with_reducible rfl
            simp only [Act.put, List.setIfInBounds_toArray, List.set_cons_zero, List.set_cons_succ]
            refine wpR_val (v := ?_) ?_ ?_ (fun w1 hS hK => ?_) ?_
            rotate_left
            · rfl
            · rfl
            · have E1 := (hE).trans hS
              have k1 := E1.cell ra
              have k2 := E1.cell ai1
              have k3 := E1.cell ai2
              have k4 := E1.cell rj
              have k5 := E1.cell jm1
              have k6 := E1.cell jm2
              have k7 := (HF.out.ext hS).cell (j := 0) rfl
              have k8 := (HF.out.ext hS).cell (j := 1) rfl
              have k9 := (HB.out.ext hS).cell (j := 0) rfl
              have k10 := (HB.out.ext hS).cell (j := 1) rfl
              clear hK hS E1
              go_simp
              with_reducible rfl
            simp only [Act.put, List.setIfInBounds_toArray, List.set_cons_zero, List.set_cons_succ]
            refine wpR_val (v := ?_) ?_ ?_ (fun w1 hS hK => ?_) ?_
            rotate_left
            · rfl
            · rfl
            · have E1 := (hE).trans hS
              have k1 := E1.cell ra
              have k2 := E1.cell ai1
              have k3 := E1.cell ai2
              have k4 := E1.cell rj
              have k5 := E1.cell jm1
              have k6 := E1.cell jm2
              have k7 := (HF.out.ext hS).cell (j := 0) rfl
              have k8 := (HF.out.ext hS).cell (j := 1) rfl
              have k9 := (HB.out.ext hS).cell (j := 0) rfl
              have k10 := (HB.out.ext hS).cell (j := 1) rfl
              clear hK hS E1
              go_simp
              with_reducible rfl
            simp only [Act.put, List.setIfInBounds_toArray, List.set_cons_zero, List.set_cons_succ]
            refine wpR_val (v := ?_) ?_ ?_ (fun w1 hS hK => ?_) ?_
            rotate_left
            · rfl
            · rfl
            · have E1 := (hE).trans hS
              have k1 := E1.cell ra
              have k2 := E1.cell ai1
              have k3 := E1.cell ai2
              have k4 := E1.cell rj
              have k5 := E1.cell jm1
              have k6 := E1.cell jm2
              have k7 := (HF.out.ext hS).cell (j := 0) rfl
              have k8 := (HF.out.ext hS).cell (j := 1) rfl
              have k9 := (HB.out.ext hS).cell (j := 0) rfl
              have k10 := (HB.out.ext hS).cell (j := 1) rfl
              clear hK hS E1
              go_simp
              with_reducible rfl
            simp only [Act.put, List.setIfInBounds_toArray, List.set_cons_zero, List.set_cons_succ]
            refine wpR_val (v := ?_) ?_ ?_ (fun w1 hS hK => ?_) ?_
            rotate_left
            · rfl
            · rfl
            · clear hK hS
              go_simp
              with_reducible rfl
            simp only [Act.put, List.setIfInBounds_toArray, List.set_cons_zero, List.set_cons_succ]
            refine wpR_val (v := ?_) ?_ ?_ (fun w1 hS hK => ?_) ?_
            rotate_left
            · rfl
            · rfl
            · have E1 := (hE).trans hS
              have k1 := E1.cell ra
              have k2 := E1.cell ai1
              have k3 := E1.cell ai2
              have k4 := E1.cell rj
              have k5 := E1.cell jm1
              have k6 := E1.cell jm2
              have k7 := (HF.out.ext hS).cell (j := 0) rfl
              have k8 := (HF.out.ext hS).cell (j := 1) rfl
              have k9 := (HB.out.ext hS).cell (j := 0) rfl
              have k10 := (HB.out.ext hS).cell (j := 1) rfl
              clear hK hS E1
              go_simp
              with_reducible rfl
            simp only [Act.put, List.setIfInBounds_toArray, List.set_cons_zero, List.set_cons_succ]
            refine wpR_val (v := ?_) ?_ ?_ (fun w1 hS hK => ?_) ?_
            rotate_left
            · rfl
            · rfl
            · have E1 := (hE).trans hS
              have k1 := E1.cell ra
              have k2 := E1.cell ai1
              have k3 := E1.cell ai2
              have k4 := E1.cell rj
              have k5 := E1.cell jm1
              have k6 := E1.cell jm2
              have k7 := (HF.out.ext hS).cell (j := 0) rfl
              have k8 := (HF.out.ext hS).cell (j := 1) rfl
              have k9 := (HB.out.ext hS).cell (j := 0) rfl
              have k10 := (HB.out.ext hS).cell (j := 1) rfl
              clear hK hS E1
              go_simp
              with_reducible rfl
            simp only [Act.put, List.setIfInBounds_toArray, List.set_cons_zero, List.set_cons_succ]
            refine wpR_call (v := ?_) (f := ?_) (args := ?_) ?_ ?_ (fun w => ?_) ?_ (fun w1 hS hK => ?_) ?_
            rotate_left 3
            · rfl
            · rfl
            · go_simp
              refine ⟨?_, ?_⟩ <;> rfl
            · kernel_rfl
            · exact plusD (plus2 (tget t a i) (X, Y)) (tget t j m) _ (plus2_bd (HBd.out a i hlt hin) HXY.out) (HBd.out j m hjn hlm)
            simp only [Act.put, List.setIfInBounds_toArray, List.set_cons_zero, List.set_cons_succ]
            refine wpR_made (by rfl) (by rfl) (fun w1 hS hK => ?_) (fun v hv => ?_)
            · exact made_val (v := .pointer (some ⟨w1.heap.size, 0, none⟩)) (w' := w1.alloc (.cells [.int .i64 0, .int .i64 0].toArray 117)) (by go_simp) ⟨_, hS.size, rfl⟩ (fun b hb => by cases hb; exact OwnB.laid _ _ _) (Ext.alloc _ _)
            simp only [Act.put, List.setIfInBounds_toArray, List.set_cons_zero, List.set_cons_succ]
            intro w2 E2 L2
            obtain ⟨bx, hbx, rfl⟩ := hv
            have hown := L2.1 _ rfl
            clear L2
            have E02 := hE.trans E2
            have HF2 := Lib.hid (HF.out.ext E2)
            have HB2 := Lib.hid (HB.out.ext E2)
            have HT2 := Lib.hid (HT.out.ext E2)
            have HR2 := Lib.hid (HR.out.ext E2)
            have hRlt := Lib.hid (fun R (hR : R ∈ Rs) => (show R < wr.heap.size from by
              obtain ⟨r, hr⟩ := List.mem_iff_getElem?.1 hR
              exact (HR.out r R hr).lt))
            have hbxl := hown.lt
            have cx0 := hown.cell (j := 0) rfl
            have cx1 := hown.cell (j := 1) rfl
            have fx0 := hown.frozen 0
            have fx1 := hown.frozen 1
            have HO := Lib.hid hown
            clear hown E2 HF HB HT HR hE
            generalize hx1 : plus2 (plus2 (tget t a i) (X, Y)) (tget t j m) = XX at *
            obtain ⟨X1, X2⟩ := XX
            dsimp only
            have HX1 := Lib.hid hx1
            clear hx1
            go_wp2
            have e0 := ext_own (ext_own E02 (b := bx) (j := 0) (by omega) (.int .i64 X1)) (b := bx) (j := 1) (by omega) (.int .i64 X2)
            have eF := (HF2.out.other (b' := bx) (by omega) 0 (.int .i64 X1)).other (b' := bx) (by omega) 1 (.int .i64 X2)
            have eB := (HB2.out.other (b' := bx) (by omega) 0 (.int .i64 X1)).other (b' := bx) (by omega) 1 (.int .i64 X2)
            have eT := (HT2.out.other (b' := bx) (by omega) 0 (.int .i64 X1)).other (b' := bx) (by omega) 1 (.int .i64 X2)
            have eR := (HR2.out.other (b' := bx) (fun R hR => by have := hRlt.out R hR; omega) 0 (.int .i64 X1)).other (b' := bx) (fun R hR => by have := hRlt.out R hR; omega) 1 (.int .i64 X2)
            have eX := (HO.out.set 0 (.int .i64 X1)).set 1 (.int .i64 X2)
            simp only [List.set_cons_zero, List.set_cons_succ] at eX
            have eF := Lib.hid eF
            have eB := Lib.hid eB
            have eT := Lib.hid eT
            have eR := Lib.hid eR
            have eX := Lib.hid eX
            clear HF2 HB2 HT2 HR2 HO cx0 cx1 fx0 fx1 E02
            refine region_ext 21 [(20, allocSp [.int .i64 0, .int .i64 0] 117 w2.heap.size)] (by kernel_rfl) (by kernel_rfl) ⟨allocSp_stable _ _ _, trivial⟩ ?_
            simp only [List.take_succ_cons, List.take_zero, List.drop_succ_cons, List.drop_zero]
            refine wpR_val (v := ?_) ?_ ?_ (fun w1 hS hK => ?_) ?_
            rotate_left
            · rfl
            · rfl
            · clear hK hS
              go_simp
              with_reducible rfl
            simp only [Act.put, List.setIfInBounds_toArray, List.set_cons_zero, List.set_cons_succ]
            refine wpR_val (v := ?_) ?_ ?_ (fun w1 hS hK => ?_) ?_
            rotate_left
            · rfl
            · rfl
            · clear hK hS
              go_simp
              with_reducible rfl
            simp only [Act.put, List.setIfInBounds_toArray, List.set_cons_zero, List.set_cons_succ]
            refine wpR_val (v := ?_) ?_ ?_ (fun w1 hS hK => ?_) ?_
            rotate_left
            · rfl
            · rfl
            · have E1 := (e0).trans hS
              have k1 := E1.cell ra
              have k2 := E1.cell aj1
              have k3 := E1.cell aj2
              have k4 := E1.cell ri
              have k5 := E1.cell im1
              have k6 := E1.cell im2
              have k7 := (eF.out.ext hS).cell (j := 0) rfl
              have k8 := (eF.out.ext hS).cell (j := 1) rfl
              have k9 := (eB.out.ext hS).cell (j := 0) rfl
              have k10 := (eB.out.ext hS).cell (j := 1) rfl
              clear hK hS E1
              go_simp
              with_reducible rfl
            simp only [Act.put, List.setIfInBounds_toArray, List.set_cons_zero, List.set_cons_succ]
            refine wpR_val (v := ?_) ?_ ?_ (fun w1 hS hK => ?_) ?_
            rotate_left
            · rfl
            · rfl
            · have E1 := (e0).trans hS
              have k1 := E1.cell ra
              have k2 := E1.cell aj1
              have k3 := E1.cell aj2
              have k4 := E1.cell ri
              have k5 := E1.cell im1
              have k6 := E1.cell im2
              have k7 := (eF.out.ext hS).cell (j := 0) rfl
              have k8 := (eF.out.ext hS).cell (j := 1) rfl
              have k9 := (eB.out.ext hS).cell (j := 0) rfl
              have k10 := (eB.out.ext hS).cell (j := 1) rfl
              clear hK hS E1
              go_simp
              with_reducible rfl
            simp only [Act.put, List.setIfInBounds_toArray, List.set_cons_zero, List.set_cons_succ]
            refine wpR_val (v := ?_) ?_ ?_ (fun w1 hS hK => ?_) ?_
            rotate_left
            · rfl
            · rfl
            · clear hK hS
              go_simp
              with_reducible rfl
            simp only [Act.put, List.setIfInBounds_toArray, List.set_cons_zero, List.set_cons_succ]
            refine wpR_val (v := ?_) ?_ ?_ (fun w1 hS hK => ?_) ?_
            rotate_left
            · rfl
            · rfl
            · have E1 := (e0).trans hS
              have k1 := E1.cell ra
              have k2 := E1.cell aj1
              have k3 := E1.cell aj2
              have k4 := E1.cell ri
              have k5 := E1.cell im1
              have k6 := E1.cell im2
              have k7 := (eF.out.ext hS).cell (j := 0) rfl
              have k8 := (eF.out.ext hS).cell (j := 1) rfl
              have k9 := (eB.out.ext hS).cell (j := 0) rfl
              have k10 := (eB.out.ext hS).cell (j := 1) rfl
              clear hK hS E1
              go_simp
              with_reducible rfl
            simp only [Act.put, List.setIfInBounds_toArray, List.set_cons_zero, List.set_cons_succ]
            refine wpR_val (v := ?_) ?_ ?_ (fun w1 hS hK => ?_) ?_
            rotate_left
            · rfl
            · rfl
            · have E1 := (e0).trans hS
              have k1 := E1.cell ra
              have k2 := E1.cell aj1
              have k3 := E1.cell aj2
              have k4 := E1.cell ri
              have k5 := E1.cell im1
              have k6 := E1.cell im2
              have k7 := (eF.out.ext hS).cell (j := 0) rfl
              have k8 := (eF.out.ext hS).cell (j := 1) rfl
              have k9 := (eB.out.ext hS).cell (j := 0) rfl
              have k10 := (eB.out.ext hS).cell (j := 1) rfl
              clear hK hS E1
              go_simp
              with_reducible rfl
            simp only [Act.put, List.setIfInBounds_toArray, List.set_cons_zero, List.set_cons_succ]
            refine wpR_val (v := ?_) ?_ ?_ (fun w1 hS hK => ?_) ?_
            rotate_left
            · rfl
            · rfl
            · have E1 := (e0).trans hS
              have k1 := E1.cell ra
              have k2 := E1.cell aj1
              have k3 := E1.cell aj2
              have k4 := E1.cell ri
              have k5 := E1.cell im1
              have k6 := E1.cell im2
              have k7 := (eF.out.ext hS).cell (j := 0) rfl
              have k8 := (eF.out.ext hS).cell (j := 1) rfl
              have k9 := (eB.out.ext hS).cell (j := 0) rfl
              have k10 := (eB.out.ext hS).cell (j := 1) rfl
              clear hK hS E1
              go_simp
              with_reducible rfl
            simp only [Act.put, List.setIfInBounds_toArray, List.set_cons_zero, List.set_cons_succ]
            refine wpR_val (v := ?_) ?_ ?_ (fun w1 hS hK => ?_) ?_
            rotate_left
            · rfl
            · rfl
            · have E1 := (e0).trans hS
              have k1 := E1.cell ra
              have k2 := E1.cell aj1
              have k3 := E1.cell aj2
              have k4 := E1.cell ri
              have k5 := E1.cell im1
              have k6 := E1.cell im2
              have k7 := (eF.out.ext hS).cell (j := 0) rfl
              have k8 := (eF.out.ext hS).cell (j := 1) rfl
              have k9 := (eB.out.ext hS).cell (j := 0) rfl
              have k10 := (eB.out.ext hS).cell (j := 1) rfl
              clear hK hS E1
              go_simp
              with_reducible rfl
            simp only [Act.put, List.setIfInBounds_toArray, List.set_cons_zero, List.set_cons_succ]
            refine wpR_call (v := ?_) (f := ?_) (args := ?_) ?_ ?_ (fun w => ?_) ?_ (fun w1 hS hK => ?_) ?_
            rotate_left 3
            · rfl
            · rfl
            · go_simp
              refine ⟨?_, ?_⟩ <;> rfl
            · kernel_rfl
            · exact turnD (X, Y) _ HXY.out
            simp only [Act.put, List.setIfInBounds_toArray, List.set_cons_zero, List.set_cons_succ]
            refine wpR_call (v := ?_) (f := ?_) (args := ?_) ?_ ?_ (fun w => ?_) ?_ (fun w1 hS hK => ?_) ?_
            rotate_left 3
            · rfl
            · rfl
            · go_simp
              refine ⟨?_, ?_⟩ <;> rfl
            · kernel_rfl
            · exact plusD (tget t a j) (turn2 (X, Y)) _ (HBd.out a j hlt hjn).two (turn2_bd HXY.out)
            simp only [Act.put, List.setIfInBounds_toArray, List.set_cons_zero, List.set_cons_succ]
            refine wpR_val (v := ?_) ?_ ?_ (fun w1 hS hK => ?_) ?_
            rotate_left
            · rfl
            · rfl
            · clear hK hS
              go_simp
              with_reducible rfl
            simp only [Act.put, List.setIfInBounds_toArray, List.set_cons_zero, List.set_cons_succ]
            refine wpR_val (v := ?_) ?_ ?_ (fun w1 hS hK => ?_) ?_
            rotate_left
            · rfl
            · rfl
            · clear hK hS
              go_simp
              with_reducible rfl
            simp only [Act.put, List.setIfInBounds_toArray, List.set_cons_zero, List.set_cons_succ]
            refine wpR_val (v := ?_) ?_ ?_ (fun w1 hS hK => ?_) ?_
            rotate_left
            · rfl
            · rfl
            · have E1 := (e0).trans hS
              have k1 := E1.cell ra
              have k2 := E1.cell aj1
              have k3 := E1.cell aj2
              have k4 := E1.cell ri
              have k5 := E1.cell im1
              have k6 := E1.cell im2
              have k7 := (eF.out.ext hS).cell (j := 0) rfl
              have k8 := (eF.out.ext hS).cell (j := 1) rfl
              have k9 := (eB.out.ext hS).cell (j := 0) rfl
              have k10 := (eB.out.ext hS).cell (j := 1) rfl
              clear hK hS E1
              go_simp
              with_reducible rfl
            simp only [Act.put, List.setIfInBounds_toArray, List.set_cons_zero, List.set_cons_succ]
            refine wpR_val (v := ?_) ?_ ?_ (fun w1 hS hK => ?_) ?_
            rotate_left
            · rfl
            · rfl
            · have E1 := (e0).trans hS
              have k1 := E1.cell ra
              have k2 := E1.cell aj1
              have k3 := E1.cell aj2
              have k4 := E1.cell ri
              have k5 := E1.cell im1
              have k6 := E1.cell im2
              have k7 := (eF.out.ext hS).cell (j := 0) rfl
              have k8 := (eF.out.ext hS).cell (j := 1) rfl
              have k9 := (eB.out.ext hS).cell (j := 0) rfl
              have k10 := (eB.out.ext hS).cell (j := 1) rfl
              clear hK hS E1
              go_simp
              with_reducible rfl
            simp only [Act.put, List.setIfInBounds_toArray, List.set_cons_zero, List.set_cons_succ]
            refine wpR_val (v := ?_) ?_ ?_ (fun w1 hS hK => ?_) ?_
            rotate_left
            · rfl
            · rfl
            · have E1 := (e0).trans hS
              have k1 := E1.cell ra
              have k2 := E1.cell aj1
              have k3 := E1.cell aj2
              have k4 := E1.cell ri
              have k5 := E1.cell im1
              have k6 := E1.cell im2
              have k7 := (eF.out.ext hS).cell (j := 0) rfl
              have k8 := (eF.out.ext hS).cell (j := 1) rfl
              have k9 := (eB.out.ext hS).cell (j := 0) rfl
              have k10 := (eB.out.ext hS).cell (j := 1) rfl
              clear hK hS E1
              go_simp
              with_reducible rfl
            simp only [Act.put, List.setIfInBounds_toArray, List.set_cons_zero, List.set_cons_succ]
            refine wpR_val (v := ?_) ?_ ?_ (fun w1 hS hK => ?_) ?_
            rotate_left
            · rfl
            · rfl
            · clear hK hS
              go_simp
              with_reducible rfl
            simp only [Act.put, List.setIfInBounds_toArray, List.set_cons_zero, List.set_cons_succ]
            refine wpR_val (v := ?_) ?_ ?_ (fun w1 hS hK => ?_) ?_
            rotate_left
            · rfl
            · rfl
            · have E1 := (e0).trans hS
              have k1 := E1.cell ra
              have k2 := E1.cell aj1
              have k3 := E1.cell aj2
              have k4 := E1.cell ri
              have k5 := E1.cell im1
              have k6 := E1.cell im2
              have k7 := (eF.out.ext hS).cell (j := 0) rfl
              have k8 := (eF.out.ext hS).cell (j := 1) rfl
              have k9 := (eB.out.ext hS).cell (j := 0) rfl
              have k10 := (eB.out.ext hS).cell (j := 1) rfl
              clear hK hS E1
              go_simp
              with_reducible rfl
            simp only [Act.put, List.setIfInBounds_toArray, List.set_cons_zero, List.set_cons_succ]
            refine wpR_val (v := ?_) ?_ ?_ (fun w1 hS hK => ?_) ?_
            rotate_left
            · rfl
            · rfl
            · have E1 := (e0).trans hS
              have k1 := E1.cell ra
              have k2 := E1.cell aj1
              have k3 := E1.cell aj2
              have k4 := E1.cell ri
              have k5 := E1.cell im1
              have k6 := E1.cell im2
              have k7 := (eF.out.ext hS).cell (j := 0) rfl
              have k8 := (eF.out.ext hS).cell (j := 1) rfl
              have k9 := (eB.out.ext hS).cell (j := 0) rfl
              have k10 := (eB.out.ext hS).cell (j := 1) rfl
              clear hK hS E1
              go_simp
              with_reducible rfl
            simp only [Act.put, List.setIfInBounds_toArray, List.set_cons_zero, List.set_cons_succ]
            refine wpR_call (v := ?_) (f := ?_) (args := ?_) ?_ ?_ (fun w => ?_) ?_ (fun w1 hS hK => ?_) ?_
            rotate_left 3
            · rfl
            · rfl
            · go_simp
              refine ⟨?_, ?_⟩ <;> rfl
            · kernel_rfl
            · exact plusD (plus2 (tget t a j) (turn2 (X, Y))) (tget t i m) _ (plus2_bd (HBd.out a j hlt hjn) (turn2_bd HXY.out)) (HBd.out i m hin hlm)
            simp only [Act.put, List.setIfInBounds_toArray, List.set_cons_zero, List.set_cons_succ]
            refine wpR_made (by rfl) (by rfl) (fun w1 hS hK => ?_) (fun v hv => ?_)
            · exact made_val (v := .pointer (some ⟨w1.heap.size, 0, none⟩)) (w' := w1.alloc (.cells [.int .i64 0, .int .i64 0].toArray 117)) (by go_simp) ⟨_, Nat.le_trans (by simp) hS.size, rfl⟩ (fun b hb => by cases hb; exact OwnB.laid _ _ _) (Ext.alloc _ _)
            simp only [Act.put, List.setIfInBounds_toArray, List.set_cons_zero, List.set_cons_succ]
            intro w3 E3 L3
            obtain ⟨by', hby, rfl⟩ := hv
            have hown := L3.1 _ rfl
            clear L3
            have E03 := e0.trans E3
            have HF3 := Lib.hid (eF.out.ext E3)
            have HB3 := Lib.hid (eB.out.ext E3)
            have HT3 := Lib.hid (eT.out.ext E3)
            have HR3 := Lib.hid (eR.out.ext E3)
            have HX3 := Lib.hid (eX.out.ext E3)
            have hbyl := hown.lt
            have cy0 := hown.cell (j := 0) rfl
            have cy1 := hown.cell (j := 1) rfl
            have fy0 := hown.frozen 0
            have fy1 := hown.frozen 1
            have HO := Lib.hid hown
            clear hown E3 eF eB eT eR eX e0
            generalize hy1 : plus2 (plus2 (tget t a j) (turn2 (X, Y))) (tget t i m) = YY at *
            obtain ⟨Y1, Y2⟩ := YY
            dsimp only
            have HY1 := Lib.hid hy1
            clear hy1
            have hwl := E03.size
            go_wp2
            have e0 := ext_own (ext_own E03 (b := by') (j := 0) (by omega) (.int .i64 Y1)) (b := by') (j := 1) (by omega) (.int .i64 Y2)
            have eF := Lib.hid ((HF3.out.other (b' := by') (by omega) 0 (.int .i64 Y1)).other (b' := by') (by omega) 1 (.int .i64 Y2))
            have eB := Lib.hid ((HB3.out.other (b' := by') (by omega) 0 (.int .i64 Y1)).other (b' := by') (by omega) 1 (.int .i64 Y2))
            have eT := Lib.hid ((HT3.out.other (b' := by') (by omega) 0 (.int .i64 Y1)).other (b' := by') (by omega) 1 (.int .i64 Y2))
            have eR := Lib.hid ((HR3.out.other (b' := by') (fun R hR => by have := hRlt.out R hR; omega) 0 (.int .i64 Y1)).other (b' := by') (fun R hR => by have := hRlt.out R hR; omega) 1 (.int .i64 Y2))
            have eX := Lib.hid ((HX3.out.other (b' := by') (by omega) 0 (.int .i64 Y1)).other (b' := by') (by omega) 1 (.int .i64 Y2))
            have eY := (HO.out.set 0 (.int .i64 Y1)).set 1 (.int .i64 Y2)
            simp only [List.set_cons_zero, List.set_cons_succ] at eY
            have eY := Lib.hid eY
            clear HF3 HB3 HT3 HR3 HX3 HO cy0 cy1 fy0 fy1 E03
            obtain ⟨Ra, hRa⟩ : ∃ R, Rs[a]? = some R := ⟨_, List.getElem?_eq_getElem (by have := HRl.out; omega)⟩
            have HRa := Lib.hid hRa
            clear hRa
            refine region_ext 17 [] (by kernel_rfl) (by kernel_rfl) trivial ?_
            simp only [List.take_succ_cons, List.take_zero, List.drop_succ_cons, List.drop_zero]
            refine wpR_val (v := ?_) ?_ ?_ (fun w1 hS hK => ?_) ?_
            rotate_left
            · rfl
            · rfl
            · clear hK hS
              go_simp
              with_reducible rfl
            simp only [Act.put, List.setIfInBounds_toArray, List.set_cons_zero, List.set_cons_succ]
            refine wpR_val (v := ?_) ?_ ?_ (fun w1 hS hK => ?_) ?_
            rotate_left
            · rfl
            · rfl
            · clear hK hS
              go_simp
              with_reducible rfl
            simp only [Act.put, List.setIfInBounds_toArray, List.set_cons_zero, List.set_cons_succ]
            refine wpR_val (v := ?_) ?_ ?_ (fun w1 hS hK => ?_) ?_
            rotate_left
            · rfl
            · rfl
            · have E1 := (e0).trans hS
              have k0 := (eT.out.ext hS).cell (j := a) (u := .slice (some ⟨Ra, 0, none⟩) n n) (by rw [List.getElem?_map, HRa.out]; rfl)
              have k1 := E1.cell ra
              have k2 := E1.cell am1
              have k3 := E1.cell am2
              have k7 := (eX.out.ext hS).cell (j := 0) rfl
              have k8 := (eX.out.ext hS).cell (j := 1) rfl
              have k9 := (eY.out.ext hS).cell (j := 0) rfl
              have k10 := (eY.out.ext hS).cell (j := 1) rfl
              clear hK hS E1
              go_simp
              with_reducible rfl
            simp only [Act.put, List.setIfInBounds_toArray, List.set_cons_zero, List.set_cons_succ]
            refine wpR_val (v := ?_) ?_ ?_ (fun w1 hS hK => ?_) ?_
            rotate_left
            · rfl
            · rfl
            · have E1 := (e0).trans hS
              have k0 := (eT.out.ext hS).cell (j := a) (u := .slice (some ⟨Ra, 0, none⟩) n n) (by rw [List.getElem?_map, HRa.out]; rfl)
              have k1 := E1.cell ra
              have k2 := E1.cell am1
              have k3 := E1.cell am2
              have k7 := (eX.out.ext hS).cell (j := 0) rfl
              have k8 := (eX.out.ext hS).cell (j := 1) rfl
              have k9 := (eY.out.ext hS).cell (j := 0) rfl
              have k10 := (eY.out.ext hS).cell (j := 1) rfl
              clear hK hS E1
              go_simp
              with_reducible rfl
            simp only [Act.put, List.setIfInBounds_toArray, List.set_cons_zero, List.set_cons_succ]
            refine wpR_val (v := ?_) ?_ ?_ (fun w1 hS hK => ?_) ?_
            rotate_left
            · rfl
            · rfl
            · clear hK hS
              go_simp
              with_reducible rfl
            simp only [Act.put, List.setIfInBounds_toArray, List.set_cons_zero, List.set_cons_succ]
            refine wpR_val (v := ?_) ?_ ?_ (fun w1 hS hK => ?_) ?_
            rotate_left
            · rfl
            · rfl
            · clear hK hS
              go_simp
              with_reducible rfl
            simp only [Act.put, List.setIfInBounds_toArray, List.set_cons_zero, List.set_cons_succ]
            refine wpR_val (v := ?_) ?_ ?_ (fun w1 hS hK => ?_) ?_
            rotate_left
            · rfl
            · rfl
            · clear hK hS
              go_simp
              with_reducible rfl
            simp only [Act.put, List.setIfInBounds_toArray, List.set_cons_zero, List.set_cons_succ]
            refine wpR_val (v := ?_) ?_ ?_ (fun w1 hS hK => ?_) ?_
            rotate_left
            · rfl
            · rfl
            · have E1 := (e0).trans hS
              have k0 := (eT.out.ext hS).cell (j := a) (u := .slice (some ⟨Ra, 0, none⟩) n n) (by rw [List.getElem?_map, HRa.out]; rfl)
              have k1 := E1.cell ra
              have k2 := E1.cell am1
              have k3 := E1.cell am2
              have k7 := (eX.out.ext hS).cell (j := 0) rfl
              have k8 := (eX.out.ext hS).cell (j := 1) rfl
              have k9 := (eY.out.ext hS).cell (j := 0) rfl
              have k10 := (eY.out.ext hS).cell (j := 1) rfl
              clear hK hS E1
              go_simp
              with_reducible rfl
            simp only [Act.put, List.setIfInBounds_toArray, List.set_cons_zero, List.set_cons_succ]
            refine wpR_val (v := ?_) ?_ ?_ (fun w1 hS hK => ?_) ?_
            rotate_left
            · rfl
            · rfl
            · have E1 := (e0).trans hS
              have k0 := (eT.out.ext hS).cell (j := a) (u := .slice (some ⟨Ra, 0, none⟩) n n) (by rw [List.getElem?_map, HRa.out]; rfl)
              have k1 := E1.cell ra
              have k2 := E1.cell am1
              have k3 := E1.cell am2
              have k7 := (eX.out.ext hS).cell (j := 0) rfl
              have k8 := (eX.out.ext hS).cell (j := 1) rfl
              have k9 := (eY.out.ext hS).cell (j := 0) rfl
              have k10 := (eY.out.ext hS).cell (j := 1) rfl
              clear hK hS E1
              go_simp
              with_reducible rfl
            simp only [Act.put, List.setIfInBounds_toArray, List.set_cons_zero, List.set_cons_succ]
            refine wpR_val (v := ?_) ?_ ?_ (fun w1 hS hK => ?_) ?_
            rotate_left
            · rfl
            · rfl
            · clear hK hS
              go_simp
              with_reducible rfl
            simp only [Act.put, List.setIfInBounds_toArray, List.set_cons_zero, List.set_cons_succ]
            refine wpR_val (v := ?_) ?_ ?_ (fun w1 hS hK => ?_) ?_
            rotate_left
            · rfl
            · rfl
            · have E1 := (e0).trans hS
              have k0 := (eT.out.ext hS).cell (j := a) (u := .slice (some ⟨Ra, 0, none⟩) n n) (by rw [List.getElem?_map, HRa.out]; rfl)
              have k1 := E1.cell ra
              have k2 := E1.cell am1
              have k3 := E1.cell am2
              have k7 := (eX.out.ext hS).cell (j := 0) rfl
              have k8 := (eX.out.ext hS).cell (j := 1) rfl
              have k9 := (eY.out.ext hS).cell (j := 0) rfl
              have k10 := (eY.out.ext hS).cell (j := 1) rfl
              clear hK hS E1
              go_simp
              with_reducible rfl
            simp only [Act.put, List.setIfInBounds_toArray, List.set_cons_zero, List.set_cons_succ]
            refine wpR_val (v := ?_) ?_ ?_ (fun w1 hS hK => ?_) ?_
            rotate_left
            · rfl
            · rfl
            · have E1 := (e0).trans hS
              have k0 := (eT.out.ext hS).cell (j := a) (u := .slice (some ⟨Ra, 0, none⟩) n n) (by rw [List.getElem?_map, HRa.out]; rfl)
              have k1 := E1.cell ra
              have k2 := E1.cell am1
              have k3 := E1.cell am2
              have k7 := (eX.out.ext hS).cell (j := 0) rfl
              have k8 := (eX.out.ext hS).cell (j := 1) rfl
              have k9 := (eY.out.ext hS).cell (j := 0) rfl
              have k10 := (eY.out.ext hS).cell (j := 1) rfl
              clear hK hS E1
              go_simp
              with_reducible rfl
            simp only [Act.put, List.setIfInBounds_toArray, List.set_cons_zero, List.set_cons_succ]
            refine wpR_val (v := ?_) ?_ ?_ (fun w1 hS hK => ?_) ?_
            rotate_left
            · rfl
            · rfl
            · have E1 := (e0).trans hS
              have k0 := (eT.out.ext hS).cell (j := a) (u := .slice (some ⟨Ra, 0, none⟩) n n) (by rw [List.getElem?_map, HRa.out]; rfl)
              have k1 := E1.cell ra
              have k2 := E1.cell am1
              have k3 := E1.cell am2
              have k7 := (eX.out.ext hS).cell (j := 0) rfl
              have k8 := (eX.out.ext hS).cell (j := 1) rfl
              have k9 := (eY.out.ext hS).cell (j := 0) rfl
              have k10 := (eY.out.ext hS).cell (j := 1) rfl
              clear hK hS E1
              go_simp
              with_reducible rfl
            simp only [Act.put, List.setIfInBounds_toArray, List.set_cons_zero, List.set_cons_succ]
            refine wpR_call (v := ?_) (f := ?_) (args := ?_) ?_ ?_ (fun w => ?_) ?_ (fun w1 hS hK => ?_) ?_
            rotate_left 3
            · rfl
            · rfl
            · go_simp
              refine ⟨?_, ?_⟩ <;> rfl
            · kernel_rfl
            · exact both_any _ _ _ _ _
            simp only [Act.put, List.setIfInBounds_toArray, List.set_cons_zero, List.set_cons_succ]
            refine wpR_val (v := ?_) ?_ ?_ (fun w1 hS hK => ?_) ?_
            rotate_left
            · rfl
            · rfl
            · have E1 := (e0).trans hS
              have k0 := (eT.out.ext hS).cell (j := a) (u := .slice (some ⟨Ra, 0, none⟩) n n) (by rw [List.getElem?_map, HRa.out]; rfl)
              have k1 := E1.cell ra
              have k2 := E1.cell am1
              have k3 := E1.cell am2
              have k7 := (eX.out.ext hS).cell (j := 0) rfl
              have k8 := (eX.out.ext hS).cell (j := 1) rfl
              have k9 := (eY.out.ext hS).cell (j := 0) rfl
              have k10 := (eY.out.ext hS).cell (j := 1) rfl
              clear hK hS E1
              go_simp
              with_reducible rfl
            simp only [Act.put, List.setIfInBounds_toArray, List.set_cons_zero, List.set_cons_succ]
            refine wpR_call (v := ?_) (f := ?_) (args := ?_) ?_ ?_ (fun w => ?_) ?_ (fun w1 hS hK => ?_) ?_
            rotate_left 3
            · rfl
            · rfl
            · go_simp
              refine ⟨?_, ?_⟩ <;> rfl
            · kernel_rfl
            · exact both_any _ _ _ _ _
            simp only [Act.put, List.setIfInBounds_toArray, List.set_cons_zero, List.set_cons_succ]
            refine wpR_val (v := ?_) ?_ ?_ (fun w1 hS hK => ?_) ?_
            rotate_left
            · rfl
            · rfl
            · have E1 := (e0).trans hS
              have k0 := (eT.out.ext hS).cell (j := a) (u := .slice (some ⟨Ra, 0, none⟩) n n) (by rw [List.getElem?_map, HRa.out]; rfl)
              have k1 := E1.cell ra
              have k2 := E1.cell am1
              have k3 := E1.cell am2
              have k7 := (eX.out.ext hS).cell (j := 0) rfl
              have k8 := (eX.out.ext hS).cell (j := 1) rfl
              have k9 := (eY.out.ext hS).cell (j := 0) rfl
              have k10 := (eY.out.ext hS).cell (j := 1) rfl
              clear hK hS E1
              go_simp
              with_reducible rfl
            simp only [Act.put, List.setIfInBounds_toArray, List.set_cons_zero, List.set_cons_succ]
            intro w4 E4 _
            have E04 := e0.trans E4
            have HF4 := Lib.hid (eF.out.ext E4)
            have HB4 := Lib.hid (eB.out.ext E4)
            have HT4 := Lib.hid (eT.out.ext E4)
            have HR4 := Lib.hid (eR.out.ext E4)
            clear e0 eF eB eT eR eX eY E4
            have hrow := HR4.out a Ra HRa.out
            have hpl := prow_len n t i j (X, Y) a m a (by omega)
            have hg := flatD_get (prow n t i j (X, Y) a m a) m (by omega)
            generalize (prow n t i j (X, Y) a m a)[m]'(by omega) = pm at hg
            have cr1 := hrow.cell hg.1
            have cr2 := hrow.cell hg.2
            have fr1 := hrow.frozen (m * 2)
            have fr2 := hrow.frozen (m * 2 + 1)
            have hRal := hrow.lt
            have HW := Lib.hid hrow
            have HPl := Lib.hid hpl
            clear hrow hg hpl
            go_wp2
            go_roundw
            case rel =>
              have hmem : Ra ∈ Rs := List.mem_of_getElem? HRa.out
              have hRaw : w.heap.size + 1 ≤ Ra := by have := HRb.out Ra hmem; omega
              have hRaT : T ≠ Ra := fun h => HTR.out (h ▸ hmem)
              have hRab : bd ≠ Ra := fun h => by have := HRb.out Ra hmem; omega
              refine ⟨m + 1, by go_num, by omega, ext_own (ext_own E04 (by omega) _) (by omega) _, (HF4.out.other (by omega) _ _).other (by omega) _ _, (HB4.out.other hRab _ _).other hRab _ _, (HT4.out.other hRaT _ _).other hRaT _ _, fun r R hr => ?_⟩
              by_cases hra : r = a
              · subst hra
                have e : R = Ra := by have := HRa.out; rw [hr] at this; simpa using this
                subst e
                rw [prow_set n t i j (X, Y) r m hlm, ← flatD_set _ _ _ (by rw [HPl.out]; exact hlm)]
                have hval : withE t i j (X, Y) r m = (max (tget t r m).1 (max X1 Y1), min (tget t r m).2 (min X2 Y2)) := by
                  unfold withE
                  rw [HX1.out, HY1.out]
                  unfold both2
                  simp only [Int.max_assoc, Int.min_assoc]
                rw [hval]
                exact (HW.out.set (m * 2) _).set (m * 2 + 1) _
              · have hne : R ≠ Ra := fun h => by
                  subst h
                  have h1 := (List.getElem?_eq_some_iff.1 hr)
                  have h2 := (List.getElem?_eq_some_iff.1 HRa.out)
                  obtain ⟨l1, e1⟩ := h1
                  obtain ⟨l2, e2⟩ := h2
                  exact hra ((List.getElem_inj HND.out).1 (e1.trans e2.symm))
                rw [prow_other n t i j (X, Y) a (m + 1) m r hra]
                exact ((HR4.out r R hr).other hne _ _).other hne _ _
            case measure => simp [intOf]; omega
          · obtain rfl : m = n := by omega
            go_wp2
            go_roundw
            case rel => exact ⟨a + 1, by go_num, by omega, hE, HF.out, HB.out, HT.out, fun r R hr => by rw [← prow_next]; exact HR.out r R hr⟩
            case measure => simp [intOf]; omega
      · obtain rfl : a = n := by omega
        go_wp2
        go_ret2
        have hw : withT a t i j (lo, hi) = some ((List.range a).map (withRow a t i j (X, Y))) := by
          unfold withT both2
          simp only [HX.out, HY.out]
          rw [if_neg (by have := HLe.out; omega)]
        refine ⟨?_, hE⟩
        rw [hw]
        refine ⟨_, rfl, ?_⟩
        refine ⟨T, Rs, rfl, by omega, by simp, HRl.out, HTR.out, HND.out, fun R hR => by have := HRb.out R hR; omega, HT.out, fun r R row hr hrow => ?_⟩
        have hra : r < a := by have := (List.getElem?_eq_some_iff.1 hr).1; have := HRl.out; omega
        have e : row = withRow a t i j (X, Y) r := by simpa [hra] using hrow.symm
        subst e
        refine ⟨by simp [withRow], ?_⟩
        have := HR.out r R hr
        unfold prow at this
        rwa [if_pos hra] at this
end Go.Proofs.Ytebfnjabgkhngaa
end
