/- What a crash leaves, in plain words. No law is proved here. -/
import Derived.Test.YtibnakpefjjoiaaFileQ
namespace Go.Proofs.Ytibnakpefjjoiaa.Fs
open Go.RowKit Go.Proofs.YtibnakpefjjoiaaW.PrintWords Go.Proofs.YtibnakpefjjoiaaW.PrintLast Go.Proofs.YtibnakpefjjoiaaW.PrintMore Go.Proofs.Ytibnakpefjjoiaa.Q Go.Proofs.Ytibnakpefjjoiaa.Own
set_option linter.unusedVariables false
set_option linter.unusedSimpArgs false

theorem wrap_id {i : Int} (h0 : -9223372036854775808 ≤ i) (h1 : i ≤ 9223372036854775807) : wrap64 i = i := by unfold wrap64; omega
/-- How many bytes more are left, behind those that were synced. -/
def moreI (keep : List Int) (n : Nat) (x : SF) : Int := if n < keep.length then minI (maxI (keep.getD n 0) 0) ((x.f1.length : Int) - x.f2) else 0
def crash1 (keep : List Int) (n : Nat) (x : SF) : SF := ⟨x.f0, x.f1.take (x.f2 + moreI keep n x).toNat, x.f2 + moreI keep n x⟩
def crashF (keep : List Int) : Nat → List SF → List SF
  | _, [] => []
  | n, x :: L => if x.f2 = (x.f1.length : Int) then x :: crashF keep n L else crash1 keep n x :: crashF keep (n + 1) L
def crashN : Nat → List SF → Nat
  | n, [] => n
  | n, x :: L => if x.f2 = (x.f1.length : Int) then crashN n L else crashN (n + 1) L
/-- A file is as files are. -/
def SafeF (x : SF) : Prop := 0 ≤ x.f2 ∧ x.f2 ≤ (x.f1.length : Int) ∧ x.f0.size ≤ 32
def SafeS (st : Stt) : Prop := ∀ x ∈ st.L, SafeF x
theorem more_le (keep : List Int) (n : Nat) {x : SF} (h : SafeF x) : 0 ≤ moreI keep n x ∧ x.f2 + moreI keep n x ≤ (x.f1.length : Int) := by
  obtain ⟨h1, h2, h3⟩ := h
  unfold moreI minI maxI
  split
  · split <;> split <;> omega
  · omega
theorem crash1_len (keep : List Int) (n : Nat) {x : SF} (h : SafeF x) : ((crash1 keep n x).f1.length : Int) = (crash1 keep n x).f2 := by
  have := more_le keep n h
  obtain ⟨h1, h2, h3⟩ := h
  unfold crash1
  dsimp only
  rw [List.length_take]
  omega
theorem crash1_safe (keep : List Int) (n : Nat) {x : SF} (h : SafeF x) : SafeF (crash1 keep n x) := by
  have h1 := crash1_len keep n h
  have h2 := more_le keep n h
  refine ⟨?_, by omega, h.2.2⟩
  show 0 ≤ x.f2 + moreI keep n x
  have := h.1
  omega
theorem crash_names (keep : List Int) : ∀ (n : Nat) (L : List SF), (crashF keep n L).map (fun x => x.f0) = L.map fun x => x.f0
  | _, [] => rfl
  | n, x :: L => by
    unfold crashF
    split
    · rw [List.map_cons, List.map_cons, crash_names keep n L]
    · rw [List.map_cons, List.map_cons, crash_names keep (n + 1) L]
      rfl
theorem crash_length (keep : List Int) (n : Nat) (L : List SF) : (crashF keep n L).length = L.length := by
  have := congrArg List.length (crash_names keep n L)
  simpa using this
theorem crash_snoc (keep : List Int) (x : SF) : ∀ (n : Nat) (A : List SF), crashF keep n (A ++ [x]) = crashF keep n A ++ (if x.f2 = (x.f1.length : Int) then [x] else [crash1 keep (crashN n A) x]) ∧ crashN n (A ++ [x]) = if x.f2 = (x.f1.length : Int) then crashN n A else crashN n A + 1
  | n, [] => by
    show crashF keep n [x] = _ ∧ crashN n [x] = _
    unfold crashF crashN
    split
    · exact ⟨rfl, rfl⟩
    · exact ⟨rfl, rfl⟩
  | n, y :: A => by
    obtain ⟨i1, i2⟩ := crash_snoc keep x n A
    obtain ⟨j1, j2⟩ := crash_snoc keep x (n + 1) A
    by_cases hy : y.f2 = (y.f1.length : Int)
    · refine ⟨?_, ?_⟩
      · show (if y.f2 = (y.f1.length : Int) then y :: crashF keep n (A ++ [x]) else _) = (if y.f2 = (y.f1.length : Int) then y :: crashF keep n A else _) ++ (if x.f2 = (x.f1.length : Int) then [x] else [crash1 keep (if y.f2 = (y.f1.length : Int) then crashN n A else _) x])
        rw [if_pos hy, if_pos hy, if_pos hy, i1]
        rfl
      · show (if y.f2 = (y.f1.length : Int) then crashN n (A ++ [x]) else _) = if x.f2 = (x.f1.length : Int) then (if y.f2 = (y.f1.length : Int) then crashN n A else _) else (if y.f2 = (y.f1.length : Int) then crashN n A else _) + 1
        rw [if_pos hy, if_pos hy, i2]
    · refine ⟨?_, ?_⟩
      · show (if y.f2 = (y.f1.length : Int) then _ else crash1 keep n y :: crashF keep (n + 1) (A ++ [x])) = (if y.f2 = (y.f1.length : Int) then _ else crash1 keep n y :: crashF keep (n + 1) A) ++ (if x.f2 = (x.f1.length : Int) then [x] else [crash1 keep (if y.f2 = (y.f1.length : Int) then _ else crashN (n + 1) A) x])
        rw [if_neg hy, if_neg hy, if_neg hy, j1]
        rfl
      · show (if y.f2 = (y.f1.length : Int) then _ else crashN (n + 1) (A ++ [x])) = if x.f2 = (x.f1.length : Int) then (if y.f2 = (y.f1.length : Int) then _ else crashN (n + 1) A) else (if y.f2 = (y.f1.length : Int) then _ else crashN (n + 1) A) + 1
        rw [if_neg hy, if_neg hy, j2]
theorem rise_names {L M : List SF} (h : Rise L) (e : M.map (fun x => x.f0) = L.map fun x => x.f0) : Rise M := by
  have key : ∀ K : List SF, Rise K ↔ (K.map fun x => x.f0).Pairwise fun a b : ByteArray => a.data.toList < b.data.toList := fun K => by rw [List.pairwise_map]; rfl
  rw [key, e, ← key]
  exact h
/-- A file is put in the place of one of its name. -/
theorem set_place {A R : List SF} {x y : SF} (h : Rise (A ++ x :: R)) (e : y.f0 = x.f0) : setF (A ++ x :: R) y = A ++ y :: R := by
  have hn : nameL y = nameL x := congrArg (fun s : ByteArray => s.data.toList) e
  have hc : cutF (A ++ x :: R) (nameL x) = A ++ R := by
    have hu := rise_unlike h
    unfold cutF
    rw [List.filter_append, List.filter_cons, if_neg (by simp), List.filter_eq_self.2, List.filter_eq_self.2]
    · intro z hz
      rw [bne_iff_ne]
      have := (List.pairwise_cons.1 (List.pairwise_append.1 hu).2.1).1 z hz
      exact fun q => this q.symm
    · intro z hz
      rw [bne_iff_ne]
      exact (List.pairwise_append.1 hu).2.2 z hz x (List.mem_cons_self ..)
  have hp : (setF (A ++ x :: R) y).Perm (A ++ y :: R) := by
    unfold setF
    rw [hn, hc]
    exact (ins_perm _ _).trans List.perm_middle.symm
  have h1 := set_rise h y
  have h2 : Rise (A ++ y :: R) := rise_names h (by rw [List.map_append, List.map_append, List.map_cons, List.map_cons, e])
  refine List.Perm.eq_of_pairwise (le := fun a b => nameL a < nameL b) (fun a b _ _ q1 q2 => absurd q2 (lt_asymm' q1)) h1 h2 hp
theorem find_place {A R : List SF} {x : SF} (h : Rise (A ++ x :: R)) : findF (A ++ x :: R) x.f0.data.toList = some x := find_of (rise_unlike h) (by simp)
/-- The files in the middle of a crash: the first i are as it leaves them. -/
def midF (keep : List Int) (L : List SF) (i : Nat) : List SF := crashF keep 0 (L.take i) ++ L.drop i
theorem mid_names (keep : List Int) (L : List SF) (i : Nat) : (midF keep L i).map (fun x => x.f0) = L.map fun x => x.f0 := by
  unfold midF
  rw [List.map_append, crash_names, ← List.map_append, List.take_append_drop]
theorem mid_rise (keep : List Int) {L : List SF} (h : Rise L) (i : Nat) : Rise (midF keep L i) := rise_names h (mid_names keep L i)
theorem mid_at (keep : List Int) (L : List SF) {i : Nat} (hi : i < L.length) : midF keep L i = crashF keep 0 (L.take i) ++ L[i] :: L.drop (i + 1) := by
  unfold midF
  rw [List.drop_eq_getElem_cons hi]
theorem mid_same (keep : List Int) (L : List SF) {i : Nat} (hi : i < L.length) (e : L[i].f2 = (L[i].f1.length : Int)) : midF keep L (i + 1) = midF keep L i ∧ crashN 0 (L.take (i + 1)) = crashN 0 (L.take i) := by
  obtain ⟨h1, h2⟩ := crash_snoc keep L[i] 0 (L.take i)
  rw [← List.take_succ_eq_append_getElem hi] at h1 h2
  rw [if_pos e] at h1 h2
  refine ⟨?_, h2⟩
  rw [mid_at keep L hi]
  unfold midF
  rw [h1, List.append_assoc]
  rfl
theorem mid_next (keep : List Int) {L : List SF} (h : Rise L) {i : Nat} (hi : i < L.length) (e : ¬ L[i].f2 = (L[i].f1.length : Int)) : midF keep L (i + 1) = setF (midF keep L i) (crash1 keep (crashN 0 (L.take i)) L[i]) ∧ crashN 0 (L.take (i + 1)) = crashN 0 (L.take i) + 1 := by
  obtain ⟨h1, h2⟩ := crash_snoc keep L[i] 0 (L.take i)
  rw [← List.take_succ_eq_append_getElem hi] at h1 h2
  rw [if_neg e] at h1 h2
  refine ⟨?_, h2⟩
  have hr := mid_rise keep h i
  rw [mid_at keep L hi] at hr ⊢
  rw [set_place (y := crash1 keep (crashN 0 (L.take i)) L[i]) hr rfl]
  unfold midF
  rw [h1, List.append_assoc]
  rfl
theorem mid_end (keep : List Int) (L : List SF) : midF keep L L.length = crashF keep 0 L := by
  unfold midF
  rw [List.take_length, List.drop_length, List.append_nil]
def crashS (st : Stt) (keep : List Int) : Stt := ⟨-1, st.acts, crashF keep 0 st.L⟩
theorem crash_mem {keep : List Int} : ∀ {n : Nat} {L : List SF} {y : SF}, y ∈ crashF keep n L → ∃ x ∈ L, (y = x ∧ x.f2 = (x.f1.length : Int)) ∨ ∃ m, y = crash1 keep m x
  | _, [], _, h => absurd h List.not_mem_nil
  | n, x :: L, y, h => by
    unfold crashF at h
    split at h
    · rename_i hx
      rcases List.mem_cons.1 h with rfl | h
      · exact ⟨y, List.mem_cons_self .., .inl ⟨rfl, hx⟩⟩
      · obtain ⟨z, hz, q⟩ := crash_mem h
        exact ⟨z, List.mem_cons_of_mem _ hz, q⟩
    · rcases List.mem_cons.1 h with rfl | h
      · exact ⟨x, List.mem_cons_self .., .inr ⟨n, rfl⟩⟩
      · obtain ⟨z, hz, q⟩ := crash_mem h
        exact ⟨z, List.mem_cons_of_mem _ hz, q⟩
theorem crash_safe {st : Stt} {keep : List Int} (h : SafeS st) : SafeS (crashS st keep) := by
  intro y hy
  obtain ⟨x, hx, ⟨rfl, _⟩ | ⟨m, rfl⟩⟩ := crash_mem (show y ∈ crashF keep 0 st.L from hy)
  · exact h _ hx
  · exact crash1_safe keep m (h x hx)
theorem mid_mem {keep : List Int} {L : List SF} {i : Nat} {y : SF} (h : y ∈ midF keep L i) : y ∈ L ∨ ∃ x ∈ L, ∃ m, y = crash1 keep m x := by
  rcases List.mem_append.1 h with h | h
  · obtain ⟨x, hx, ⟨rfl, _⟩ | ⟨m, rfl⟩⟩ := crash_mem h
    · exact .inl (List.mem_of_mem_take hx)
    · exact .inr ⟨x, List.mem_of_mem_take hx, m, rfl⟩
  · exact .inl (List.mem_of_mem_drop h)
theorem crash_ok {st : Stt} {keep : List Int} (h : OkS st) : OkS (crashS st keep) := ⟨h.a0, h.a1, by show (-1 : Int) ≤ -1; omega, by show (-1 : Int) ≤ 9223372036854775807; omega, by show (crashF keep 0 st.L).length < 900000; rw [crash_length]; exact h.n, fun y hy => by
  obtain ⟨x, hx, ⟨rfl, _⟩ | ⟨m, rfl⟩⟩ := crash_mem (show y ∈ crashF keep 0 st.L from hy)
  · exact h.few _ hx
  · refine Nat.le_trans ?_ (h.few x hx)
    show (x.f1.take _).length ≤ x.f1.length
    rw [List.length_take]
    omega⟩
theorem crash_rise {st : Stt} {keep : List Int} (h : Rise st.L) : Rise (crashS st keep).L := rise_names h (crash_names keep 0 st.L)
end Go.Proofs.Ytibnakpefjjoiaa.Fs
