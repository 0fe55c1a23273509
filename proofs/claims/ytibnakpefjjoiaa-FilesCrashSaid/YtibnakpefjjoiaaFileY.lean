/- What FilesCrash comes to, in plain words. No law is proved here. -/
import Derived.Test.YtibnakpefjjoiaaFileW
import Derived.Test.YtibnakpefjjoiaaQ11
namespace Go.Proofs.Ytibnakpefjjoiaa.Fs
open Go.RowKit Go.Proofs.YtibnakpefjjoiaaW.PrintWords Go.Proofs.YtibnakpefjjoiaaW.PrintLast Go.Proofs.YtibnakpefjjoiaaW.PrintMore Go.Proofs.Ytibnakpefjjoiaa.Q Go.Proofs.Ytibnakpefjjoiaa.Own
set_option linter.unusedVariables false
set_option linter.unusedSimpArgs false

abbrev SA := S46
abbrev kA : Kd SA := k46
def SmallA (x : SA) : Prop := x.f1.size ≤ 30000 ∧ x.f2.size ≤ 30000 ∧ x.f3.length ≤ 30000
theorem great_l0 (l : List SA) (hl : l.length ≤ 100) : ∀ (m i : Nat) (t : Int), i + m = l.length → ∃ r, tocsinlaw03_Great.l0 (m + 1) l t (i : Int) = some r ∧ (r = false → ∀ j (hj : j < l.length), i ≤ j → SmallA l[j])
  | 0, i, t, h => by
    unfold tocsinlaw03_Great.l0
    rw [if_neg (by omega)]
    exact ⟨_, rfl, fun _ j hj hij => by omega⟩
  | m + 1, i, t, h => by
    have hi : i < l.length := by omega
    unfold tocsinlaw03_Great.l0
    rw [if_pos (by omega), if_pos (by omega)]
    have e : rd_T46 l (i : Int) = l[i] := by
      unfold rd_T46
      rw [Int.toNat_natCast, List.getD_eq_getElem?_getD, List.getElem?_eq_getElem hi]
      rfl
    rw [e]
    by_cases h3 : ((l[i]).f3.length : Int) > 30000
    · rw [if_pos h3]
      exact ⟨true, rfl, fun q => by cases q⟩
    rw [if_neg h3]
    by_cases h1 : ((l[i]).f1.size : Int) > 30000
    · rw [if_pos h1]
      exact ⟨true, rfl, fun q => by cases q⟩
    rw [if_neg h1]
    by_cases h2 : ((l[i]).f2.size : Int) > 30000
    · rw [if_pos h2]
      exact ⟨true, rfl, fun q => by cases q⟩
    rw [if_neg h2, wrap_nat (show i < 9223372036854775807 by omega)]
    generalize wrap64 _ = t'
    obtain ⟨r, e1, e2⟩ := great_l0 l hl m (i + 1) t' (by omega)
    refine ⟨r, e1, fun q j hj hij => ?_⟩
    by_cases hji : j = i
    · subst hji
      exact ⟨by omega, by omega, by omega⟩
    · exact e2 q j hj (by omega)
theorem great_ev (l : List SA) : ∃ r, tocsinlaw03_Great.f (l.length + 1) l = some r ∧ (r = false → l.length ≤ 100 ∧ ∀ x ∈ l, SmallA x) := by
  unfold tocsinlaw03_Great.f
  by_cases h : (l.length : Int) > 100
  · rw [if_pos h]
    exact ⟨true, rfl, fun q => by cases q⟩
  · rw [if_neg h]
    obtain ⟨r, e1, e2⟩ := great_l0 l (by omega) l.length 0 0 (by omega)
    refine ⟨r, e1, fun q => ⟨by omega, fun x hx => ?_⟩⟩
    obtain ⟨i, hi, rfl⟩ := List.getElem_of_mem hx
    exact e2 q i hi (Nat.zero_le _)

/-- What an act makes of a store. -/
def actS (st : Stt) (x : SA) : Stt :=
  if x.f0.tmod 10 = 4 then (syncS st x.f1).2 else if x.f0.tmod 10 = 5 then (truncS st x.f1 x.f4).2 else if x.f0.tmod 10 = 6 then (renameS st x.f1 x.f2).2 else if x.f0.tmod 10 = 7 then (removeS st x.f1).2
  else if x.f0.tmod 10 = 8 ∨ x.f0.tmod 10 = 9 then st else (appendS st x.f1 x.f3).2
theorem fine_act {st : Stt} {k : Nat} (h : Fine st k) (x : SA) : Fine (actS st x) (k + 1) := by
  unfold actS
  split
  · exact fine_sync h _
  split
  · exact fine_trunc h _ _
  split
  · exact fine_rename h _ _
  split
  · exact fine_remove h _
  split
  · exact h.more (by omega)
  · exact fine_append h _ _
theorem on_left {st : Stt} (h : st.left = -1) (s : ByteArray) {do_ : SF → Int × Stt} (hd : ∀ x, (do_ x).2.left = -1) : (onF st s do_).2.left = -1 := by
  unfold onF
  split
  · exact h
  · split
    · exact h
    · exact hd _
theorem leftF_no {l : Int} (h : l = -1) : leftF l = -1 := by
  subst h
  rfl
theorem act_left {st : Stt} (h : st.left = -1) (x : SA) : (actS st x).left = -1 := by
  unfold actS
  split
  · exact on_left h _ fun _ => leftF_no h
  split
  · exact on_left h _ fun y => by split; exact h; exact leftF_no h
  split
  · exact on_left h _ fun y => by split; exact leftF_no h; exact h
  split
  · exact on_left h _ fun _ => leftF_no h
  split
  · exact h
  · unfold appendS
    split
    · exact h
    split
    · exact h
    split
    · exact h
    split
    · exact h
    · exact leftF_no h

/-- What a file is behind a crash. -/
structure CrF (a b : SF) : Prop where
  name : b.f0 = a.f0
  all : b.f2 = (b.f1.length : Int)
  safe : a.f2 ≤ (b.f1.length : Int)
  begins : b.f1 = a.f1.take b.f1.length
theorem crf_at (keep : List Int) : ∀ (n : Nat) (L : List SF) (hf : ∀ x ∈ L, SafeF x) (i : Nat) (h1 : i < L.length) (h2 : i < (crashF keep n L).length), CrF L[i] (crashF keep n L)[i]
  | n, [], _, i, h1, _ => absurd h1 (Nat.not_lt_zero _)
  | n, x :: L, hf, i, h1, h2 => by
    have hx := hf x (List.mem_cons_self ..)
    have hL := fun y hy => hf y (List.mem_cons_of_mem _ hy)
    by_cases hs : x.f2 = (x.f1.length : Int)
    · have e : crashF keep n (x :: L) = x :: crashF keep n L := by
        show (if x.f2 = (x.f1.length : Int) then _ else _) = _
        rw [if_pos hs]
      have key : ∀ (K : List SF) (h2 : i < K.length), K = x :: crashF keep n L → CrF ((x :: L)[i]) K[i] := by
        rintro K h2 rfl
        cases i with
        | zero => exact ⟨rfl, hs, by rw [List.getElem_cons_zero, List.getElem_cons_zero]; omega, by rw [List.getElem_cons_zero, List.getElem_cons_zero, List.take_length]⟩
        | succ i =>
          rw [List.getElem_cons_succ, List.getElem_cons_succ]
          exact crf_at keep n L hL i (by simpa using h1) (by simpa using h2)
      exact key _ h2 e
    · have e : crashF keep n (x :: L) = crash1 keep n x :: crashF keep (n + 1) L := by
        show (if x.f2 = (x.f1.length : Int) then _ else _) = _
        rw [if_neg hs]
      have key : ∀ (K : List SF) (h2 : i < K.length), K = crash1 keep n x :: crashF keep (n + 1) L → CrF ((x :: L)[i]) K[i] := by
        rintro K h2 rfl
        cases i with
        | zero =>
          rw [List.getElem_cons_zero, List.getElem_cons_zero]
          have hl := crash1_len keep n hx
          have hm := more_le keep n hx
          refine ⟨rfl, hl.symm, ?_, ?_⟩
          · rw [hl]
            show x.f2 ≤ x.f2 + moreI keep n x
            omega
          · show x.f1.take (x.f2 + moreI keep n x).toNat = x.f1.take (x.f1.take (x.f2 + moreI keep n x).toNat).length
            rw [List.length_take, Nat.min_eq_left]
            have := hx.1
            omega
        | succ i =>
          rw [List.getElem_cons_succ, List.getElem_cons_succ]
          exact crf_at keep (n + 1) L hL i (by simpa using h1) (by simpa using h2)
      exact key _ h2 e
theorem crash_same (keep : List Int) : ∀ (n : Nat) (L : List SF), (∀ x ∈ L, x.f2 = (x.f1.length : Int)) → crashF keep n L = L
  | _, [], _ => rfl
  | n, x :: L, h => by
    unfold crashF
    rw [if_pos (h x (List.mem_cons_self ..)), crash_same keep n L fun y hy => h y (List.mem_cons_of_mem _ hy)]
theorem crash_twice {st : Stt} (hf : SafeS st) (keep : List Int) : crashS (crashS st keep) keep = crashS st keep := by
  unfold crashS
  dsimp only
  rw [crash_same keep 0 (crashF keep 0 st.L)]
  intro y hy
  obtain ⟨i, hi, rfl⟩ := List.getElem_of_mem hy
  exact (crf_at keep 0 st.L hf i (by rw [crash_length] at hi; exact hi) hi).all
theorem told_at {st : Stt} (hl : st.left = -1) (hr : Rise st.L) {i : Nat} (hi : i < st.L.length) {s : ByteArray} (hs : s = (st.L[i]).f0) : toldE st s = 0 ∧ toldX st s = st.L[i] := by
  have hf : findF st.L s.data.toList = some st.L[i] := by
    subst hs
    exact find_of (rise_unlike hr) (List.getElem_mem hi)
  unfold toldE toldX
  rw [hf, if_neg (by rw [hl]; omega), if_neg (by rw [hl]; omega)]
  exact ⟨rfl, rfl⟩
/-! A row of rows, as a row of places: each row is a thing of its own. -/
abbrev Hd := Option Addr × Nat × Nat
abbrev kH : Kd Hd := Kd.scalar (fun h : Hd => .slice h.1 h.2.1 h.2.2) (fun _ => rfl)
theorem inf23 : (Try.prog.info? 23).map (fun i => (i.zero, i.size, i.bytes)) = some (some (.slice none 0 0), 1, 24) := by kernel_rfl
theorem inf3 : (Try.prog.info? 3).map (fun i => (i.zero, i.size, i.bytes)) = some (some (.int .i64 0), 1, 8) := by kernel_rfl
theorem lit_H (w : World) (h : Hd) : Kd.C kH (w.alloc (.cells #[.slice h.1 h.2.1 h.2.2] 23)) (some ⟨w.heap.size, 0, none⟩) [h].length [h] := by
  have hr : Kd.R kH 23 (w.alloc (.cells #[.slice h.1 h.2.1 h.2.2] 23)) 0 (fun _ => True) (.slice (some ⟨w.heap.size, 0, none⟩) [h].length [h].length) [h] :=
    ⟨fun _ _ => trivial, OwnRow.lit (ps := [h]) w 0 (inner := encs (fun h : Hd => .slice h.1 h.2.1 h.2.2) [h]) (Kd.reps_scalar [h]) (Nat.zero_le _) (show 1 ≤ 9223372036854775807 by omega)⟩
  exact (Kd.R_reads' hr).2.2
theorem at_H {w : World} {A : Option Addr} {n : Nat} {l : List Hd} (h : Kd.C kH w A n l) (i : Nat) {x : Hd} (hx : l[i]? = some x) : ∃ ad, A = some ad ∧ w.cell? (ad.add i) = some (.slice x.1 x.2.1 x.2.2) := by
  have hi : i < l.length := by
    rcases Nat.lt_or_ge i l.length with q | q
    · exact q
    · rw [List.getElem?_eq_none q] at hx
      cases hx
  have hn := Kd.C_len h
  obtain ⟨ad, c, e, _, hK, hc⟩ := Kd.C_get h x (i : Int) (by omega) (by omega)
  rw [Int.toNat_natCast, List.getD_eq_getElem?_getD, hx] at hK
  rw [Int.toNat_natCast] at hc
  have hK' : c = [.slice x.1 x.2.1 x.2.2] := hK
  have h0 := hc 0 (.slice x.1 x.2.1 x.2.2) (by rw [hK']; rfl)
  have h3 : w.cell? (ad.add (i * 1 + 0)) = some (.slice x.1 x.2.1 x.2.2) := h0
  rw [Nat.mul_one, Nat.add_zero] at h3
  exact ⟨ad, e, h3⟩
def WasOk (F : Nat → List Int) (hs : List Hd) (Rs : List Th) (n : Nat) : Prop := hs.length = n ∧ ∀ j, j < n → ∃ A c, hs[j]? = some (A, (F j).length, c) ∧ rowB (.slice A (F j).length c) (F j) ∈ Rs
theorem was_none (F : Nat → List Int) (Rs : List Th) : WasOk F [] Rs 0 := ⟨rfl, fun j h => absurd h (Nat.not_lt_zero _)⟩
theorem WasOk.push {F : Nat → List Int} {hs : List Hd} {Rs Rs' : List Th} {n : Nat} (h : WasOk F hs Rs n) (hR : ∀ T ∈ Rs, T ∈ Rs') {A : Option Addr} {c : Nat} (hm : rowB (.slice A (F n).length c) (F n) ∈ Rs') : WasOk F (hs ++ [(A, (F n).length, c)]) Rs' (n + 1) := by
  obtain ⟨h1, h2⟩ := h
  refine ⟨by rw [List.length_append, h1]; rfl, fun j hj => ?_⟩
  by_cases hjn : j = n
  · subst hjn
    exact ⟨A, c, by rw [List.getElem?_append_right (by omega), h1, Nat.sub_self]; rfl, hm⟩
  · obtain ⟨A', c', e, hm'⟩ := h2 j (by omega)
    exact ⟨A', c', by rw [List.getElem?_append_left (by omega)]; exact e, hR _ hm'⟩
theorem WasOk.more {F : Nat → List Int} {hs : List Hd} {Rs Rs' : List Th} {n : Nat} (h : WasOk F hs Rs n) (hR : ∀ T ∈ Rs, T ∈ Rs') : WasOk F hs Rs' n := ⟨h.1, fun j hj => by
  obtain ⟨A, c, e, hm⟩ := h.2 j hj
  exact ⟨A, c, e, hR _ hm⟩⟩
theorem WasOk.as {F F' : Nat → List Int} {hs : List Hd} {Rs : List Th} {n : Nat} (h : WasOk F hs Rs n) (e : ∀ j, j < n → F' j = F j) : WasOk F' hs Rs n := ⟨h.1, fun j hj => by
  obtain ⟨A, c, e1, hm⟩ := h.2 j hj
  rw [← e j hj] at e1 hm
  exact ⟨A, c, e1, hm⟩⟩
theorem WasOk.set {F F' : Nat → List Int} {hs : List Hd} {Rs : List Th} {n j : Nat} (h : WasOk F hs Rs n) (hj : j < n) (hF : ∀ i, i ≠ j → F' i = F i) {A : Option Addr} {c : Nat} (hm : rowB (.slice A (F' j).length c) (F' j) ∈ Rs) : WasOk F' (hs.set j (A, (F' j).length, c)) Rs n := by
  obtain ⟨h1, h2⟩ := h
  refine ⟨by rw [List.length_set, h1], fun i hi => ?_⟩
  by_cases hij : i = j
  · subst hij
    exact ⟨A, c, by rw [List.getElem?_set_self (by omega)], hm⟩
  · obtain ⟨A', c', e, hm'⟩ := h2 i hi
    rw [← hF i hij] at e hm'
    exact ⟨A', c', by rw [List.getElem?_set_ne (by omega)]; exact e, hm'⟩
/-- What a file holds, by its number. -/
def fB (L : List SF) (i : Nat) : List Int := ((L[i]?).getD zF).f1
theorem fB_at {L : List SF} {i : Nat} (h : i < L.length) : fB L i = (L[i]).f1 := by
  unfold fB
  rw [List.getElem?_eq_getElem h]
  rfl
def fS (L : List SF) : List Int := L.map fun x => x.f2
end Go.Proofs.Ytibnakpefjjoiaa.Fs
