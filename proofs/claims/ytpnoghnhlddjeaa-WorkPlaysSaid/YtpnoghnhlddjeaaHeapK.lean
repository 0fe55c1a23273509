/- Plain laws of a heap: keys by places. No program in sight. -/
namespace Go.Proofs.Ytpnoghnhlddjeaa.HpK
/-- Keys, two of which have changed places. -/
def swapK (K : Nat → Int) (i k : Nat) : Nat → Int := fun j => if j = k then K i else if j = i then K k else K j
def HeapK (K : Nat → Int) (n : Nat) : Prop := ∀ j, 0 < j → j < n → K ((j - 1) / 2) ≤ K j
/-- A heap but for what goes ahead from i0, and is at c. -/
def UpK (K : Nat → Int) (n i0 c : Nat) : Prop :=
  c ≤ i0 ∧ (∀ j, 0 < j → j < n → j ≠ c → (c = i0 → (j - 1) / 2 ≠ c) → K ((j - 1) / 2) ≤ K j) ∧ (0 < c → ∀ j, 0 < j → j < n → (j - 1) / 2 = c → K ((c - 1) / 2) ≤ K j)
/-- A heap but for what goes back from i. -/
def DownK (K : Nat → Int) (n i : Nat) : Prop :=
  (∀ j, 0 < j → j < n → (j - 1) / 2 ≠ i → K ((j - 1) / 2) ≤ K j) ∧ (0 < i → ∀ j, 0 < j → j < n → (j - 1) / 2 = i → K ((i - 1) / 2) ≤ K j)
theorem up_stop {K : Nat → Int} {n i0 c : Nat} (h : UpK K n i0 c) (hn : i0 < n) (hc : c = 0 ∨ K ((c - 1) / 2) ≤ K c) : DownK K n i0 := by
  obtain ⟨h0, h1, h2⟩ := h
  have all : ∀ j, 0 < j → j < n → (j - 1) / 2 ≠ i0 → K ((j - 1) / 2) ≤ K j := by
    intro j a b d
    by_cases e : j = c
    · subst e
      rcases hc with g | g
      · omega
      · exact g
    · exact h1 j a b e (fun e2 => by omega)
  refine ⟨all, fun hi j a b d => ?_⟩
  by_cases e : c = i0
  · subst e
    exact h2 hi j a b d
  · have q1 : K ((i0 - 1) / 2) ≤ K i0 := h1 i0 hi hn (fun q => e q.symm) (fun q => absurd q e)
    have q2 : K ((j - 1) / 2) ≤ K j := h1 j a b (by omega) (fun q => absurd q e)
    rw [d] at q2
    exact Int.le_trans q1 q2
theorem up_step {K : Nat → Int} {n i0 c : Nat} (h : UpK K n i0 c) (hn : i0 < n) (hc : 0 < c) (hlt : K c < K ((c - 1) / 2)) : UpK (swapK K c ((c - 1) / 2)) n i0 ((c - 1) / 2) := by
  obtain ⟨h0, h1, h2⟩ := h
  have hp : (c - 1) / 2 < c := by omega
  refine ⟨by omega, fun j a b d e => ?_, fun hp0 j a b d => ?_⟩
  · unfold swapK
    rw [if_neg d]
    by_cases e1 : j = c
    · subst e1
      rw [if_pos rfl, if_pos rfl]
      omega
    · rw [if_neg e1]
      by_cases e2 : (j - 1) / 2 = c
      · rw [if_neg (by omega), if_pos e2]
        exact h2 hc j a b e2
      · by_cases e3 : (j - 1) / 2 = (c - 1) / 2
        · rw [if_pos e3]
          have := h1 j a b e1 (fun _ => e2)
          rw [e3] at this
          omega
        · rw [if_neg e3, if_neg e2]
          exact h1 j a b e1 (fun _ => e2)
  · have q : K (((c - 1) / 2 - 1) / 2) ≤ K ((c - 1) / 2) := h1 ((c - 1) / 2) hp0 (by omega) (by omega) (fun _ => by omega)
    unfold swapK
    rw [if_neg (by omega), if_neg (by omega), if_neg (by omega)]
    by_cases e1 : j = c
    · rw [if_pos e1]
      exact q
    · rw [if_neg e1]
      have := h1 j a b e1 (fun _ => by omega)
      rw [d] at this
      omega
theorem down_stop {K : Nat → Int} {n i : Nat} (h : DownK K n i) (hs : ∀ j, 0 < j → j < n → (j - 1) / 2 = i → K i ≤ K j) : HeapK K n := by
  intro j a b
  by_cases e : (j - 1) / 2 = i
  · rw [e]; exact hs j a b e
  · exact h.1 j a b e
theorem down_step {K : Nat → Int} {n i m : Nat} (h : DownK K n i) (hm0 : 0 < m) (hmn : m < n) (hm : (m - 1) / 2 = i) (hlt : K m < K i) (hs : ∀ j, 0 < j → j < n → (j - 1) / 2 = i → K m ≤ K j) : DownK (swapK K i m) n m := by
  obtain ⟨h1, h2⟩ := h
  have hp : i < m := by omega
  refine ⟨fun j a b d => ?_, fun _ j a b d => ?_⟩
  · unfold swapK
    rw [if_neg d]
    by_cases e1 : j = m
    · subst e1
      rw [if_pos hm, if_pos rfl]
      omega
    · rw [if_neg e1]
      by_cases e2 : (j - 1) / 2 = i
      · rw [if_pos e2, if_neg (by omega)]
        exact hs j a b e2
      · rw [if_neg e2]
        by_cases e3 : j = i
        · subst e3
          rw [if_pos rfl]
          have := h2 a m hm0 hmn hm
          omega
        · rw [if_neg e3]
          exact h1 j a b e2
  · unfold swapK
    rw [if_neg (by omega), if_pos hm, if_neg (by omega), if_neg (by omega)]
    have := h1 j a b (by omega)
    rw [d] at this
    exact this
theorem heap_min {K : Nat → Int} {n : Nat} (h : HeapK K n) : ∀ j, j < n → K 0 ≤ K j := by
  intro j
  induction j using Nat.strongRecOn with
  | _ j ih =>
    intro hj
    rcases Nat.eq_zero_or_pos j with e | e
    · subst e; exact Int.le_refl _
    · exact Int.le_trans (ih ((j - 1) / 2) (by omega) (by omega)) (h j e hj)
end Go.Proofs.Ytpnoghnhlddjeaa.HpK
