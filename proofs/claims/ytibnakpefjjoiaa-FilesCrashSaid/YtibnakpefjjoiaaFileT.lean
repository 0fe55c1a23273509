/- A store is as stores are, whatever is done to it. No law is proved here. -/
import Derived.Test.YtibnakpefjjoiaaFileR
namespace Go.Proofs.Ytibnakpefjjoiaa.Fs
open Go.RowKit Go.Proofs.YtibnakpefjjoiaaW.PrintWords Go.Proofs.YtibnakpefjjoiaaW.PrintLast Go.Proofs.YtibnakpefjjoiaaW.PrintMore Go.Proofs.Ytibnakpefjjoiaa.Q Go.Proofs.Ytibnakpefjjoiaa.Own
set_option linter.unusedVariables false
set_option linter.unusedSimpArgs false

theorem set_mem {L : List SF} {x y : SF} (h : y ∈ setF L x) : y = x ∨ y ∈ L := by
  unfold setF at h
  rcases List.mem_cons.1 ((ins_perm _ _).mem_iff.1 h) with h | h
  · exact .inl h
  · exact .inr (cut_mem.1 h).1
theorem with_mem {L : List SF} {s : ByteArray} {x y : SF} (h : y ∈ withL L s x) : y = ⟨s, x.f1, x.f2⟩ ∨ y ∈ L := by
  unfold withL at h
  split at h
  · exact set_mem h
  · exact .inr h
theorem with_len2 {L : List SF} (hr : Rise L) (s : ByteArray) (x : SF) : (withL L s x).length = L.length := by
  unfold withL
  split
  · rename_i h
    rw [set_len hr, if_pos (show (findF L (nameL ⟨s, x.f1, x.f2⟩)).isSome = true from h)]
  · rfl
theorem with_rise {L : List SF} (hr : Rise L) (s : ByteArray) (x : SF) : Rise (withL L s x) := by
  unfold withL
  split
  · exact set_rise hr _
  · exact hr
/-- A store is as stores are, behind so many acts at most. -/
structure Fine (st : Stt) (k : Nat) : Prop where
  a0 : 0 ≤ st.acts
  a1 : st.acts ≤ k
  l0 : -1 ≤ st.left
  l1 : st.left ≤ 9223372036854775807
  n : st.L.length ≤ 64
  few : ∀ x ∈ st.L, x.f1.length ≤ 1048576
  rise : Rise st.L
  safe : SafeS st
theorem Fine.ok {st : Stt} {k : Nat} (h : Fine st k) (hk : k < 1000000) : OkS st := ⟨h.a0, by have := h.a1; omega, h.l0, h.l1, by have := h.n; omega, fun x hx => by have := h.few x hx; omega⟩
theorem Fine.more {st : Stt} {k m : Nat} (h : Fine st k) (hm : k ≤ m) : Fine st m := ⟨h.a0, by have := h.a1; omega, h.l0, h.l1, h.n, h.few, h.rise, h.safe⟩
theorem fine_new : Fine ⟨-1, 0, []⟩ 0 := ⟨by show (0 : Int) ≤ 0; omega, by show (0 : Int) ≤ _; omega, by show (-1 : Int) ≤ -1; omega, by show (-1 : Int) ≤ 9223372036854775807; omega, by show (0 : Nat) ≤ 64; omega, fun x hx => absurd hx List.not_mem_nil, List.Pairwise.nil, fun x hx => absurd hx List.not_mem_nil⟩
theorem left_ok {l : Int} (h0 : -1 ≤ l) (h1 : l ≤ 9223372036854775807) : -1 ≤ leftF l ∧ leftF l ≤ 9223372036854775807 := by
  unfold leftF
  split <;> omega
theorem may_32 {s : ByteArray} (h : ¬ mayF s = false) : s.size ≤ 32 := by
  have : mayF s = true := by cases hm : mayF s with
    | true => rfl
    | false => exact absurd hm h
  exact (of_decide_eq_true this).2
/-- A file of a store, put down again: another one in its place. -/
theorem Fine.put {st : Stt} {k : Nat} (h : Fine st k) {s : ByteArray} {x : SF} (hs : SafeF ⟨s, x.f1, x.f2⟩) (hx : x.f1.length ≤ 1048576) (l : Int) (hl : l = st.left ∨ l = leftF st.left) (a : Int) (ha : a = st.acts ∨ a = st.acts + 1) : Fine ⟨l, a, withL st.L s x⟩ (k + 1) := by
  have hq := left_ok h.l0 h.l1
  have q0 := h.a0
  have q1 := h.a1
  have q2 := h.l0
  have q3 := h.l1
  refine ⟨by show 0 ≤ a; omega, by show a ≤ ((k + 1 : Nat) : Int); omega, by show -1 ≤ l; omega, by show l ≤ _; omega, by show (withL _ _ _).length ≤ 64; rw [with_len2 h.rise]; exact h.n, fun y hy => ?_, with_rise h.rise s x, fun y hy => ?_⟩
  · rcases with_mem hy with rfl | hy
    · exact hx
    · exact h.few y hy
  · rcases with_mem hy with rfl | hy
    · exact hs
    · exact h.safe y hy
theorem find_safe {st : Stt} {k : Nat} (h : Fine st k) {s : ByteArray} {x : SF} (hx : findF st.L s.data.toList = some x) : SafeF x ∧ x.f1.length ≤ 1048576 ∧ x.f0 = s := by
  obtain ⟨h1, h2⟩ := find_mem hx
  exact ⟨h.safe x h1, h.few x h1, ByteArray.ext (Array.ext' (show x.f0.data.toList = s.data.toList from h2))⟩
theorem fine_on {st : Stt} {k : Nat} (h : Fine st k) (s : ByteArray) {do_ : SF → Int × Stt} (hd : ∀ x, findF st.L s.data.toList = some x → Fine (do_ x).2 (k + 1)) : Fine (onF st s do_).2 (k + 1) := by
  unfold onF
  split
  · exact h.more (by omega)
  · split
    · exact h.more (by omega)
    · rename_i x hx
      exact hd x hx
theorem fine_sync {st : Stt} {k : Nat} (h : Fine st k) (s : ByteArray) : Fine (syncS st s).2 (k + 1) := fine_on h s fun x hx => by
  obtain ⟨hs, hl, he⟩ := find_safe h hx
  refine h.put (s := s) (x := ⟨x.f0, x.f1, (x.f1.length : Int)⟩) ⟨?_, ?_, ?_⟩ hl _ (.inr rfl) _ (.inr rfl)
  · show (0 : Int) ≤ (x.f1.length : Int)
    omega
  · show (x.f1.length : Int) ≤ (x.f1.length : Int)
    omega
  · show s.size ≤ 32
    rw [← he]
    exact hs.2.2
theorem fine_trunc {st : Stt} {k : Nat} (h : Fine st k) (s : ByteArray) (n : Int) : Fine (truncS st s n).2 (k + 1) := fine_on h s fun x hx => by
  obtain ⟨hs, hl, he⟩ := find_safe h hx
  have h3 : s.size ≤ 32 := by rw [← he]; exact hs.2.2
  by_cases hn : n < 0 ∨ (x.f1.length : Int) < n
  · rw [if_pos hn]
    exact h.put (s := s) (x := x) ⟨hs.1, hs.2.1, h3⟩ hl _ (.inl rfl) _ (.inl rfl)
  · rw [if_neg hn]
    obtain ⟨s1, s2, _⟩ := hs
    refine h.put (s := s) (x := ⟨x.f0, x.f1.take n.toNat, minI x.f2 n⟩) ⟨?_, ?_, h3⟩ ?_ _ (.inr rfl) _ (.inr rfl)
    · show 0 ≤ minI x.f2 n
      unfold minI
      split <;> omega
    · show minI x.f2 n ≤ ((x.f1.take n.toNat).length : Int)
      rw [List.length_take]
      unfold minI
      split <;> omega
    · show (x.f1.take n.toNat).length ≤ 1048576
      rw [List.length_take]
      omega
theorem fine_rename {st : Stt} {k : Nat} (h : Fine st k) (s m : ByteArray) : Fine (renameS st s m).2 (k + 1) := fine_on h s fun x hx => by
  obtain ⟨hs, hl, he⟩ := find_safe h hx
  by_cases hm : mayF m = true
  · rw [if_pos hm]
    have hm3 : m.size ≤ 32 := (of_decide_eq_true hm).2
    have hx2 : SafeF ⟨m, x.f1, x.f2⟩ := ⟨hs.1, hs.2.1, hm3⟩
    have hr1 := cut_rise h.rise s.data.toList
    have hr2 := set_rise hr1 ⟨m, x.f1, x.f2⟩
    have hc := cut_len h.rise s.data.toList
    rw [hx, if_pos (show (some x).isSome = true from rfl)] at hc
    have hn := h.n
    have hF : Fine ⟨st.left, st.acts, setF (cutF st.L s.data.toList) ⟨m, x.f1, x.f2⟩⟩ k := by
      refine ⟨h.a0, h.a1, h.l0, h.l1, ?_, fun y hy => ?_, hr2, fun y hy => ?_⟩
      · show (setF _ _).length ≤ 64
        rw [set_len hr1]
        split <;> omega
      · rcases set_mem hy with rfl | hy
        · exact hl
        · exact h.few y (cut_mem.1 hy).1
      · rcases set_mem hy with rfl | hy
        · exact hx2
        · exact h.safe y (cut_mem.1 hy).1
    exact hF.put (s := s) (x := x) ⟨hs.1, hs.2.1, by show s.size ≤ 32; rw [← he]; exact hs.2.2⟩ hl _ (.inr rfl) _ (.inr rfl)
  · rw [if_neg hm]
    exact h.put (s := s) (x := x) ⟨hs.1, hs.2.1, by show s.size ≤ 32; rw [← he]; exact hs.2.2⟩ hl _ (.inl rfl) _ (.inl rfl)
theorem fine_remove {st : Stt} {k : Nat} (h : Fine st k) (s : ByteArray) : Fine (removeS st s).2 (k + 1) := fine_on h s fun x hx => by
  obtain ⟨hs, hl, he⟩ := find_safe h hx
  have hF : Fine ⟨st.left, st.acts, cutF st.L s.data.toList⟩ k := ⟨h.a0, h.a1, h.l0, h.l1, Nat.le_trans (cut_le _ _) h.n, fun y hy => h.few y (cut_mem.1 hy).1, cut_rise h.rise _, fun y hy => h.safe y (cut_mem.1 hy).1⟩
  exact hF.put (s := s) (x := x) ⟨hs.1, hs.2.1, by show s.size ≤ 32; rw [← he]; exact hs.2.2⟩ hl _ (.inr rfl) _ (.inr rfl)
theorem fine_append {st : Stt} {k : Nat} (h : Fine st k) (s : ByteArray) (ys : List Int) : Fine (appendS st s ys).2 (k + 1) := by
  unfold appendS
  split
  · exact h.more (by omega)
  split
  · exact h.more (by omega)
  rename_i hm
  split
  · exact h.more (by omega)
  rename_i hlg
  split
  · exact h.more (by omega)
  rename_i hfu
  have h3 : s.size ≤ 32 := may_32 hm
  have hq := left_ok h.l0 h.l1
  have q0 := h.a0
  have q1 := h.a1
  have hX : 0 ≤ (appendX st s).f2 ∧ (appendX st s).f2 ≤ ((appendX st s).f1.length : Int) ∧ (appendX st s).f1.length ≤ 1048576 := by
    unfold appendX
    cases hx : findF st.L s.data.toList with
    | none =>
      show (0 : Int) ≤ 0 ∧ (0 : Int) ≤ 0 ∧ (0 : Nat) ≤ 1048576
      omega
    | some x => exact ⟨(find_safe h hx).1.1, (find_safe h hx).1.2.1, (find_safe h hx).2.1⟩
  have hlg2 : ¬ 1048576 - ((appendX st s).f1.length : Int) < (ys.length : Int) := fun q => hlg (decide_eq_true q)
  have hn := h.n
  refine ⟨by show 0 ≤ st.acts + 1; omega, by show st.acts + 1 ≤ ((k + 1 : Nat) : Int); omega, hq.1, hq.2, ?_, fun y hy => ?_, set_rise h.rise _, fun y hy => ?_⟩
  · show (setF _ _).length ≤ 64
    rw [set_len h.rise]
    split
    · exact hn
    · rename_i hf
      have hf2 : (findF st.L s.data.toList).isSome = false := by
        cases q : (findF st.L s.data.toList).isSome with
        | false => rfl
        | true => exact absurd q hf
      unfold fullF at hfu
      rw [hf2] at hfu
      have : ¬ 64 ≤ st.L.length := fun q => hfu (by rw [decide_eq_true q]; rfl)
      omega
  · rcases set_mem hy with rfl | hy
    · show ((appendX st s).f1 ++ ys).length ≤ 1048576
      rw [List.length_append]
      omega
    · exact h.few y hy
  · rcases set_mem hy with rfl | hy
    · refine ⟨hX.1, ?_, h3⟩
      show (appendX st s).f2 ≤ (((appendX st s).f1 ++ ys).length : Int)
      rw [List.length_append]
      omega
    · exact h.safe y hy
theorem fine_power {st : Stt} {k : Nat} (h : Fine st k) {n : Int} (hn : n ≤ 9223372036854775807) : Fine ⟨maxI n (-1), st.acts, st.L⟩ k := ⟨h.a0, h.a1, by show -1 ≤ maxI n (-1); unfold maxI; split <;> omega, by show maxI n (-1) ≤ _; unfold maxI; split <;> omega, h.n, h.few, h.rise, h.safe⟩
theorem fine_crash {st : Stt} {k : Nat} (h : Fine st k) (keep : List Int) : Fine (crashS st keep) k := ⟨h.a0, h.a1, by show (-1 : Int) ≤ -1; omega, by show (-1 : Int) ≤ 9223372036854775807; omega, by show (crashF keep 0 st.L).length ≤ 64; rw [crash_length]; exact h.n, fun y hy => by
  obtain ⟨x, hx, ⟨rfl, _⟩ | ⟨m, rfl⟩⟩ := crash_mem (show y ∈ crashF keep 0 st.L from hy)
  · exact h.few _ hx
  · refine Nat.le_trans ?_ (h.few x hx)
    show (x.f1.take _).length ≤ x.f1.length
    rw [List.length_take]
    omega, crash_rise h.rise, crash_safe h.safe⟩
end Go.Proofs.Ytibnakpefjjoiaa.Fs
