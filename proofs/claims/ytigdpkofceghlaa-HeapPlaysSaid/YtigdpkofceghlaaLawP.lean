/- What the document's functions on rising lists say, in plain words. No law is proved here. -/
import Derived.Test.YtigdpkofceghlaaHeapAll
import Derived.Test.YtigdpkofceghlaaQ9
import Derived.Test.YtigdpkofceghlaaQ8
import Derived.Test.YtigdpkofceghlaaQ7
import Derived.Test.YtigdpkofceghlaaQ6
namespace Go.Proofs.Ytigdpkofceghlaa.Hp
open Go.RowKit Go.Proofs.YtigdpkofceghlaaW.PrintWords Go.Proofs.Ytigdpkofceghlaa.Q Go.Proofs.Ytigdpkofceghlaa.Own
set_option linter.unusedVariables false
set_option linter.unusedSimpArgs false

instance : DecidableEq S29 := fun x y => decidable_of_iff (x.f0 = y.f0 ∧ x.f1 = y.f1) ⟨fun ⟨a, b⟩ => by obtain ⟨x0, x1⟩ := x; obtain ⟨y0, y1⟩ := y; dsimp only at a b; rw [a, b], fun e => by rw [e]; exact ⟨rfl, rfl⟩⟩
theorem wrap_nat {i : Nat} (h : i < 9223372036854775807) : wrap64 ((i : Int) + 1) = ((i + 1 : Nat) : Int) := by unfold wrap64; omega
theorem eta_T (x : S29) : (⟨x.f0, x.f1⟩ : S29) = x := rfl
theorem drop_nat (l : List S29) {i : Nat} (h : i < l.length) : l.drop i = rd_T29 l (i : Int) :: l.drop (i + 1) := by
  rw [rd_nat l h]
  exact List.drop_eq_getElem_cons h
theorem has_l (l : List S29) (r : Int) (hm : l.length ≤ 1000000) : ∀ k i : Nat, l.length - i < k → tocsinref25_Has.l0 k l r (i : Int) = some (hasL (l.drop i) r)
  | 0, i, h => absurd h (Nat.not_lt_zero _)
  | k + 1, i, h => by
    unfold tocsinref25_Has.l0
    by_cases hi : i < l.length
    · rw [if_pos (by omega), if_pos (by omega), drop_nat l hi, wrap_nat (by omega), has_l l r hm k (i + 1) (by omega)]
      unfold hasL
      rw [List.any_cons]
      by_cases e : (rd_T29 l (i : Int)).f0 = r <;> simp [e]
    · rw [if_neg (by omega), List.drop_eq_nil_of_le (by omega)]
      rfl
theorem has_f (l : List S29) (r : Int) (hm : l.length ≤ 1000000) : tocsinref25_Has.f (l.length + 1) l r = some (hasL l r) := by
  have := has_l l r hm (l.length + 1) 0 (by omega)
  rw [List.drop_zero] at this
  exact this
theorem same_l (l m : List S29) (hm : l.length ≤ 1000000) (he : l.length = m.length) : ∀ k i : Nat, l.length - i < k → tocsinref25_Same.l0 k l m (i : Int) = some (decide (l.drop i = m.drop i))
  | 0, i, h => absurd h (Nat.not_lt_zero _)
  | k + 1, i, h => by
    unfold tocsinref25_Same.l0
    by_cases hi : i < l.length
    · rw [if_pos (by omega), if_pos (by omega), if_pos (by omega), drop_nat l hi, drop_nat m (by omega), wrap_nat (by omega), same_l l m hm he k (i + 1) (by omega)]
      obtain ⟨x, hx⟩ : ∃ x, x = rd_T29 l (i : Int) := ⟨_, rfl⟩
      obtain ⟨y, hy⟩ : ∃ y, y = rd_T29 m (i : Int) := ⟨_, rfl⟩
      rw [← hx, ← hy]
      obtain ⟨x0, x1⟩ := x
      obtain ⟨y0, y1⟩ := y
      dsimp only
      by_cases e0 : x0 = y0
      · by_cases e1 : x1 = y1
        · subst e0; subst e1; simp
        · simp [e0, e1]
      · simp [e0]
    · rw [if_neg (by omega), List.drop_eq_nil_of_le (by omega), List.drop_eq_nil_of_le (by omega)]
      rfl
theorem same_f (l m : List S29) (hm : l.length ≤ 1000000) : tocsinref25_Same.f (l.length + 1) l m = some (decide (l = m)) := by
  unfold tocsinref25_Same.f
  by_cases he : l.length = m.length
  · rw [if_pos (by omega)]
    have := same_l l m hm he (l.length + 1) 0 (by omega)
    rw [List.drop_zero, List.drop_zero] at this
    exact this
  · rw [if_neg (by omega), decide_eq_false (fun e => he (by rw [e]))]
theorem ahead_f {x y : S29} (hx : GoodT x) (hy : GoodT y) : tocsinref25_Ahead.f x.f0 x.f1 y.f0 y.f1 = some (decide (keyT x < keyT y)) := by
  obtain ⟨a, b⟩ := hx
  obtain ⟨c, d⟩ := hy
  unfold tocsinref25_Ahead.f keyT
  by_cases h1 : x.f1 < y.f1
  · rw [if_pos h1, decide_eq_true (by omega)]
  · by_cases h2 : x.f1 = y.f1
    · rw [if_neg h1, if_pos h2]
      by_cases h3 : x.f0 < y.f0
      · rw [decide_eq_true h3, decide_eq_true (by omega)]
      · rw [decide_eq_false h3, decide_eq_false (by omega)]
    · rw [if_neg h1, if_neg h2, decide_eq_false (by omega)]
theorem with_l1 (l : List S29) (x : S29) (hm : l.length ≤ 1000000) : ∀ (k i : Nat) (o : List S29), l.length - i < k → o.length ≤ i + 1 → tocsinref25_With.l0 k l o true (i : Int) x.f0 x.f1 = some (o ++ l.drop i, 0)
  | 0, i, o, h, _ => absurd h (Nat.not_lt_zero _)
  | k + 1, i, o, h, ho => by
    unfold tocsinref25_With.l0
    by_cases hi : i < l.length
    · rw [if_pos (by omega), if_pos rfl, if_pos (by omega), if_pos (by omega), wrap_nat (by omega), eta_T, with_l1 l x hm k (i + 1) _ (by omega) (by simp; omega), drop_nat l hi]
      simp
    · rw [if_neg (by omega), if_pos rfl, List.drop_eq_nil_of_le (by omega), List.append_nil]
theorem with_l0 (l : List S29) (x : S29) (hm : l.length ≤ 1000000) (hg : ∀ y ∈ l, GoodT y) (hx : GoodT x) : ∀ (k i : Nat) (o : List S29), l.length - i < k → o.length ≤ i → i ≤ l.length → tocsinref25_With.l0 k l o false (i : Int) x.f0 x.f1 = some (o ++ withL (l.drop i) x, 0)
  | 0, i, o, h, _, _ => absurd h (Nat.not_lt_zero _)
  | k + 1, i, o, h, ho, hil => by
    unfold tocsinref25_With.l0
    by_cases hi : i < l.length
    · have hy : GoodT (rd_T29 l (i : Int)) := by rw [rd_nat l hi]; exact hg _ (List.getElem_mem hi)
      rw [if_pos (by omega), if_neg (by decide), if_pos (by omega), ahead_f hx hy, Option.bind_some]
      rw [drop_nat l hi]
      unfold withL
      by_cases hk : keyT x < keyT (rd_T29 l (i : Int))
      · rw [if_pos (by simpa using hk), if_pos (by omega), Option.bind_some, if_pos (by simp; omega), wrap_nat (by omega), eta_T, eta_T, with_l1 l x hm k (i + 1) _ (by omega) (by simp; omega), if_pos hk]
        simp
      · rw [if_neg (by simpa using hk), if_pos (by omega), wrap_nat (by omega), eta_T, with_l0 l x hm hg hx k (i + 1) _ (by omega) (by simp; omega) (by omega), if_neg hk]
        simp
    · rw [if_neg (by omega), if_neg (by decide), if_pos (by omega), List.drop_eq_nil_of_le (by omega), eta_T]
      rfl
theorem with_f (l : List S29) (x : S29) (hm : l.length ≤ 1000000) (hg : ∀ y ∈ l, GoodT y) (hx : GoodT x) : tocsinref25_With.f (l.length + 1) l x.f0 x.f1 = some (pushS l x, pushE l x) := by
  unfold tocsinref25_With.f pushS pushE
  rw [has_f l x.f0 hm, Option.bind_some]
  split
  · rfl
  · have := with_l0 l x hm hg hx (l.length + 1) 0 [] (by omega) (by simp) (by omega)
    rw [List.drop_zero, List.nil_append] at this
    exact this
theorem without_l (l : List S29) (r : Int) (hm : l.length ≤ 1000000) : ∀ (k i : Nat) (o : List S29), l.length - i < k → o.length ≤ i → tocsinref25_Without.l0 k l r o (i : Int) = some (o ++ withoutL (l.drop i) r)
  | 0, i, o, h, _ => absurd h (Nat.not_lt_zero _)
  | k + 1, i, o, h, ho => by
    unfold tocsinref25_Without.l0
    by_cases hi : i < l.length
    · rw [if_pos (by omega), if_pos (by omega), drop_nat l hi, wrap_nat (by omega), eta_T]
      unfold withoutL
      rw [List.filter_cons]
      by_cases e : (rd_T29 l (i : Int)).f0 = r
      · rw [if_pos e, without_l l r hm k (i + 1) o (by omega) (by omega), if_neg (by simp [e])]
        rfl
      · rw [if_neg e, if_pos (by omega), without_l l r hm k (i + 1) _ (by omega) (by simp; omega), if_pos (by simp [e])]
        simp [withoutL]
    · rw [if_neg (by omega), List.drop_eq_nil_of_le (by omega)]
      simp [withoutL]
theorem without_f (l : List S29) (r : Int) (hm : l.length ≤ 1000000) : tocsinref25_Without.f (l.length + 1) l r = some (withoutL l r) := by
  have := without_l l r hm (l.length + 1) 0 [] (by omega) (by simp)
  rw [List.drop_zero, List.nil_append] at this
  exact this
def findT (l : List S29) (r : Int) : S29 := (l.find? fun x => x.f0 == r).getD z29
theorem findT_l (l : List S29) (r : Int) (hm : l.length ≤ 1000000) : ∀ k i : Nat, l.length - i < k → tocsinlaw25_find.l0 k l r (i : Int) = some ((findT (l.drop i) r).f0, (findT (l.drop i) r).f1)
  | 0, i, h => absurd h (Nat.not_lt_zero _)
  | k + 1, i, h => by
    unfold tocsinlaw25_find.l0
    by_cases hi : i < l.length
    · rw [if_pos (by omega), if_pos (by omega), drop_nat l hi, wrap_nat (by omega)]
      unfold findT
      rw [List.find?_cons]
      by_cases e : (rd_T29 l (i : Int)).f0 = r
      · rw [if_pos e]
        simp [e]
      · have e' : ((rd_T29 l (i : Int)).f0 == r) = false := by simpa using e
        rw [if_neg e, findT_l l r hm k (i + 1) (by omega), e']
        rfl
    · rw [if_neg (by omega), List.drop_eq_nil_of_le (by omega)]
      rfl
theorem findT_f (l : List S29) (r : Int) (hm : l.length ≤ 1000000) : tocsinlaw25_find.f (l.length + 1) l r = some ((findT l r).f0, (findT l r).f1) := by
  have := findT_l l r hm (l.length + 1) 0 (by omega)
  rw [List.drop_zero] at this
  exact this
theorem find_hit {l : List S29} {x : S29} (h : x ∈ l) (ho : l.Pairwise fun a b => a.f0 ≠ b.f0) : findT l x.f0 = x := by
  induction l with
  | nil => cases h
  | cons y l ih =>
    obtain ⟨h1, h2⟩ := List.pairwise_cons.1 ho
    unfold findT
    rw [List.find?_cons]
    rcases List.mem_cons.1 h with rfl | h
    · simp
    · rw [show (y.f0 == x.f0) = false by simpa using h1 x h]
      exact ih h h2
theorem find_in {l : List S29} {r : Int} (h : hasL l r = true) : findT l r ∈ l ∧ (findT l r).f0 = r := by
  unfold hasL at h
  unfold findT
  cases e : l.find? (fun x => x.f0 == r) with
  | none =>
    rw [List.find?_eq_none] at e
    obtain ⟨y, hy, h2⟩ := List.any_eq_true.1 h
    exact absurd h2 (e y hy)
  | some x =>
    have h1 := List.mem_of_find?_eq_some e
    have h2 := List.find?_some e
    exact ⟨h1, by simpa using h2⟩
/-- The document's functions, of rows that are things. -/
theorem same_calls {B : Nat} {w : World} {Ts : List Th} {v u : Value} {s t : List S29} (h : Has B w Ts) (h1 : rowT k29 29 v s ∈ Ts) (h2 : rowT k29 29 u t ∈ Ts) (hm : s.length ≤ 1000000) :
    Calls Try.prog 19 #[v, u] w fun e w' => e = .returned (.bool (decide (s = t))) ∧ ∃ n, w' = w.drewN n := by
  obtain ⟨A, c, rfl, hc, hC⟩ := h.reads h1
  obtain ⟨A2, c2, rfl, hc2, hC2⟩ := h.reads h2
  exact (tocsinref25_Same.calls (s.length + 1) A c s A2 c2 t _ w hC hc hC2 hc2 (same_f s t hm)).mono fun _ _ ⟨e, d⟩ => ⟨e, d.out⟩
theorem has_calls {B : Nat} {w : World} {Ts : List Th} {v : Value} {s : List S29} (h : Has B w Ts) (h1 : rowT k29 29 v s ∈ Ts) (hm : s.length ≤ 1000000) (r : Int) :
    Calls Try.prog 20 #[v, .int .u32 r] w fun e w' => e = .returned (.bool (hasL s r)) ∧ ∃ n, w' = w.drewN n := by
  obtain ⟨A, c, rfl, hc, hC⟩ := h.reads h1
  exact (tocsinref25_Has.calls (s.length + 1) A c s r _ w hC hc (has_f s r hm)).mono fun _ _ ⟨e, d⟩ => ⟨e, d.out⟩
theorem findT_calls {w : World} {A : Option Addr} {c : Nat} {s : List S29} (hC : Kd.C k29 w A s.length s) (hc : s.length ≤ c) (hm : s.length ≤ 1000000) (r : Int) :
    Calls Try.prog 13 #[.slice A s.length c, .int .u32 r] w fun e w' => e = .returned (aggT (findT s r)) ∧ Below w.heap.size w w' :=
  tocsinlaw25_find.calls (s.length + 1) A c s r _ _ w hC hc (findT_f s r hm)
theorem without_calls {B : Nat} {w : World} {Ts : List Th} {v : Value} {s : List S29} (h : Has B w Ts) (h1 : rowT k29 29 v s ∈ Ts) (hm : s.length ≤ 1000000) (r : Int) :
    Calls Try.prog 23 #[v, .int .u32 r] w (RowPost w (withoutL s r)) := by
  obtain ⟨A, c, rfl, hc, hC⟩ := h.reads h1
  exact tocsinref25_Without.calls (s.length + 1) A c s r _ w hC hc (without_f s r hm)
end Go.Proofs.Ytigdpkofceghlaa.Hp
