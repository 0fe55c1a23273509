/- The pure statement of AlertsOthers: other rules' alerts and orders change nothing, and what is stepped on to the same instant again stays. -/
import Derived.Test.YtgfkdcckifdcpaaQ10
import Derived.Test.YtgfkdcckifdcpaaQ10D
import Derived.Test.YtgfkdcckifdcpaaBaseP
import Derived.Test.YtgfkdcckifdcpaaAwakeP
namespace Go.Proofs.Ytgfkdcckifdcpaa.Pure
open Go.RowKit Go.Proofs.YtgfkdcckifdcpaaW.PrintWords Go.Proofs.YtgfkdcckifdcpaaW.PrintLast Go.Proofs.Ytgfkdcckifdcpaa.Q
set_option linter.unusedVariables false
set_option linter.unusedSimpArgs false

theorem less_of : ∀ a b : List UInt8, a ≤ b → a ≠ b → Op.bytesLess a b = true
  | [], [], _, h => absurd rfl h
  | [], _ :: _, _, _ => rfl
  | x :: xs, [], h, _ => absurd (List.nil_lt_cons x xs) (List.not_lt.2 h)
  | x :: xs, y :: ys, h, h2 => by
    rw [List.cons_le_cons_iff] at h
    unfold Op.bytesLess
    rcases h with h | ⟨rfl, h⟩
    · rw [decide_eq_true h, Bool.true_or]
    · rw [less_of xs ys h (fun q => h2 (by rw [q])), beq_self_eq_true]
      simp
theorem lt_less {a b : ByteArray} (h : Lt a.data.toList b.data.toList) : Op.bytesLess a.toList b.toList = true := by
  rw [ByteArray.toList_eq, ByteArray.toList_eq]
  refine less_of _ _ ?_ h.2
  have := h.1
  simpa only [Go.leB, decide_eq_true_eq] using this
/-! Lists of the same -/
theorem same_l0 (l : List S36) (hl : l.length ≤ 1000000) : ∀ (d : Nat) (x : Int), 0 ≤ x → x ≤ l.length → (l.length : Int) - x = d → Ev (fun k => tocsinref22_Same.l0 k l l x) true := by
  intro d
  induction d with
  | zero =>
    intro x h0 h1 hd
    exact Ev.step (f := fun _ => some true) (fun k => by rw [tocsinref22_Same.l0, if_neg (by omega)]) (Ev.now _)
  | succ d ih =>
    intro x h0 h1 hd
    have hx : x < l.length := by omega
    exact Ev.step (fun k => by rw [tocsinref22_Same.l0, if_pos hx, if_pos h0, if_pos hx, if_neg (by simp), w64 (x := x + 1) (by omega) (by omega)]) (ih (x + 1) (by omega) (by omega) (by omega))
theorem same_ev (l : List S36) (hl : l.length ≤ 1000000) : Ev (fun k => tocsinref22_Same.f k l l) true := by
  unfold tocsinref22_Same.f
  exact ev_pos rfl (same_l0 l hl l.length 0 (by omega) (by omega) (by omega))
def ownL (l : List S36) (rule : Int) : List S36 := l.filter fun x => decide (x.f0 = rule)
theorem own_l0 (l : List S36) (rule : Int) (hl : l.length ≤ 1000000) : ∀ (d : Nat) (x : Int) (acc : List S36), 0 ≤ x → x ≤ l.length → (l.length : Int) - x = d → (acc.length : Int) ≤ x → Ev (fun k => alerts_Own.l0 k rule acc l l.length x) (acc ++ ownL (l.drop x.toNat) rule) := by
  intro d
  induction d with
  | zero =>
    intro x acc h0 h1 hd ha
    rw [List.drop_eq_nil_of_le (by omega)]
    exact Ev.step (fun k => by rw [alerts_Own.l0, if_neg (by omega)]) (ev_some (by simp [ownL]))
  | succ d ih =>
    intro x acc h0 h1 hd ha
    have hx : x < l.length := by omega
    rw [drop36 h0 hx]
    by_cases a : (rd_T36 l x).f0 = rule
    · have : ownL (rd_T36 l x :: l.drop (x + 1).toNat) rule = rd_T36 l x :: ownL (l.drop (x + 1).toNat) rule := by
        unfold ownL
        rw [List.filter_cons, if_pos (decide_eq_true a)]
      rw [this]
      have ih2 := ih (x + 1) (acc ++ [rd_T36 l x]) (by omega) (by omega) (by omega) (by rw [List.length_append]; simp; omega)
      rw [List.append_assoc, List.singleton_append] at ih2
      exact Ev.step (fun k => by rw [alerts_Own.l0, if_pos hx, if_pos h0, if_pos hx, if_pos a, if_pos (by omega), w64 (x := x + 1) (by omega) (by omega)]) ih2
    · have : ownL (rd_T36 l x :: l.drop (x + 1).toNat) rule = ownL (l.drop (x + 1).toNat) rule := by
        unfold ownL
        rw [List.filter_cons, if_neg (by simp [a])]
      rw [this]
      exact Ev.step (fun k => by rw [alerts_Own.l0, if_pos hx, if_pos h0, if_pos hx, if_neg a, w64 (x := x + 1) (by omega) (by omega)]) (ih (x + 1) acc (by omega) (by omega) (by omega) (by omega))
theorem own_ev (l : List S36) (rule : Int) (hl : l.length ≤ 1000000) : Ev (fun k => alerts_Own.f k l rule) (ownL l rule) := by
  have := own_l0 l rule hl l.length 0 [] (by omega) (by omega) (by omega) (by simp)
  simpa [alerts_Own.f] using this
/-! Orders -/
theorem rise_ext : ∀ {l m : List S36}, (l.map fun y => y.f1.data.toList).Pairwise Lt → (m.map fun y => y.f1.data.toList).Pairwise Lt → (∀ y, y ∈ l ↔ y ∈ m) → l = m
  | [], [], _, _, _ => rfl
  | [], y :: m, _, _, h => absurd ((h y).2 List.mem_cons_self) (by simp)
  | x :: l, [], _, _, h => absurd ((h x).1 List.mem_cons_self) (by simp)
  | x :: l, y :: m, hl, hm, h => by
    rw [List.map_cons, List.pairwise_cons] at hl hm
    have hxy : x = y := by
      rcases List.mem_cons.1 ((h x).1 List.mem_cons_self) with e | e
      · exact e
      · rcases List.mem_cons.1 ((h y).2 List.mem_cons_self) with e2 | e2
        · exact e2.symm
        · exact (lt_asymm (hm.1 _ (List.mem_map_of_mem (f := fun y : S36 => y.f1.data.toList) e)) (hl.1 _ (List.mem_map_of_mem (f := fun y : S36 => y.f1.data.toList) e2))).elim
    subst hxy
    congr 1
    refine rise_ext hl.2 hm.2 fun z => ⟨fun hz => ?_, fun hz => ?_⟩
    · rcases List.mem_cons.1 ((h z).1 (List.mem_cons_of_mem _ hz)) with rfl | e
      · exact (lt_irrefl _ (hl.1 _ (List.mem_map_of_mem (f := fun y : S36 => y.f1.data.toList) hz))).elim
      · exact e
    · rcases List.mem_cons.1 ((h z).2 (List.mem_cons_of_mem _ hz)) with rfl | e
      · exact (lt_irrefl _ (hm.1 _ (List.mem_map_of_mem (f := fun y : S36 => y.f1.data.toList) hz))).elim
      · exact e
/-- What stepping on asks of alerts and keys. -/
theorem step_ext {l m : List S36} {rule : Int} {keys back : List ByteArray} (fm rp at_ : Int) (hf : ∀ n, findA l rule n = findA m rule n) (hk : ∀ n, hasK keys n = hasK back n) (hm : ∀ n, (∃ x ∈ l, x.f0 = rule ∧ x.f1.data.toList = n) ↔ ∃ x ∈ m, x.f0 = rule ∧ x.f1.data.toList = n) :
    stepL l rule fm rp at_ keys = stepL m rule fm rp at_ back := by
  refine rise_ext (rise_step _ _ _ _ _ _) (rise_step _ _ _ _ _ _) fun y => ?_
  rw [mem_step, mem_step, mem_names, mem_names, hm, hk]
  unfold alertOf
  rw [hf, hk]
theorem find_own (l : List S36) (rule : Int) (n : List UInt8) : findA (ownL l rule) rule n = findA l rule n := by
  unfold findA ownL
  induction l with
  | nil => rfl
  | cons x l ih =>
    by_cases a : x.f0 = rule
    · rw [List.filter_cons, if_pos (decide_eq_true a), List.find?_cons, List.find?_cons, ih]
    · rw [List.filter_cons, if_neg (by simp [a]), ih, List.find?_cons]
      simp [a]
theorem step_own (l : List S36) (rule fm rp at_ : Int) (keys : List ByteArray) : stepL (ownL l rule) rule fm rp at_ keys = stepL l rule fm rp at_ keys := by
  refine step_ext fm rp at_ (find_own l rule) (fun _ => rfl) fun n => ?_
  constructor
  · rintro ⟨x, hx, h⟩; exact ⟨x, (List.mem_filter.1 hx).1, h⟩
  · rintro ⟨x, hx, h⟩; exact ⟨x, List.mem_filter.2 ⟨hx, decide_eq_true h.1⟩, h⟩
def Alike (a b : S36) : Prop := a.f0 = b.f0 ∧ a.f1.data.toList = b.f1.data.toList
def Unlike (l : List S36) : Prop := l.Pairwise fun a b => ¬ Alike a b
theorem unlike_find {l : List S36} (h : Unlike l) {rule : Int} {n : List UInt8} {x : S36} (hx : x ∈ l) (hr : x.f0 = rule) (hn : x.f1.data.toList = n) : findA l rule n = some x := by
  cases h2 : findA l rule n with
  | none =>
    unfold findA at h2
    have := List.find?_eq_none.1 h2 x hx
    simp [hr, hn] at this
  | some y =>
    obtain ⟨hy, hyr, hyn⟩ := find_name h2
    obtain ⟨i, hi, rfl⟩ := List.mem_iff_getElem.1 hx
    obtain ⟨j, hj, rfl⟩ := List.mem_iff_getElem.1 hy
    have hp := List.pairwise_iff_getElem.1 h
    rcases Nat.lt_trichotomy i j with q | q | q
    · exact absurd ⟨hr.trans hyr.symm, hn.trans hyn.symm⟩ (hp i j hi hj q)
    · subst q; rfl
    · exact absurd ⟨hyr.trans hr.symm, hyn.trans hn.symm⟩ (hp j i hj hi q)
theorem find_none {l : List S36} {rule : Int} {n : List UInt8} (h : ¬ ∃ x ∈ l, x.f0 = rule ∧ x.f1.data.toList = n) : findA l rule n = none := by
  cases h2 : findA l rule n with
  | none => rfl
  | some y =>
    obtain ⟨hy, hyr, hyn⟩ := find_name h2
    exact absurd ⟨y, hy, hyr, hyn⟩ h
theorem step_turned {l : List S36} (hu : Unlike l) (rule fm rp at_ : Int) (keys : List ByteArray) : stepL l.reverse rule fm rp at_ keys.reverse = stepL l rule fm rp at_ keys := by
  have hu2 : Unlike l.reverse := by
    unfold Unlike
    rw [List.pairwise_reverse]
    exact hu.imp fun h q => h ⟨q.1.symm, q.2.symm⟩
  have hm : ∀ n, (∃ x ∈ l.reverse, x.f0 = rule ∧ x.f1.data.toList = n) ↔ ∃ x ∈ l, x.f0 = rule ∧ x.f1.data.toList = n := fun n => by simp only [List.mem_reverse]
  refine step_ext fm rp at_ (fun n => ?_) (fun n => ?_) hm
  · by_cases h : ∃ x ∈ l, x.f0 = rule ∧ x.f1.data.toList = n
    · obtain ⟨x, hx, hr, hn⟩ := h
      rw [unlike_find hu hx hr hn, unlike_find hu2 (List.mem_reverse.2 hx) hr hn]
    · rw [find_none h, find_none (fun q => h ((hm n).1 q))]
  · unfold hasK
    rw [List.any_reverse]
/-! The same instant once more -/
theorem holds_alert {l : List S36} {rule fm rp at_ : Int} {keys : List ByteArray} {y : S36} (hy : y ∈ stepL l rule fm rp at_ keys) (h : hasK keys y.f1.data.toList = true) : y.f2 = if fm ≤ wrap64 (at_ - y.f3) then 2 else 1 := by
  have h2 := (mem_step.1 hy).2
  unfold alertOf at h2
  rw [if_pos h] at h2
  injection h2 with h2
  rw [← h2]
theorem rest_alert {l : List S36} {rule fm rp at_ : Int} {keys : List ByteArray} {y : S36} (hy : y ∈ stepL l rule fm rp at_ keys) (h : ¬ hasK keys y.f1.data.toList = true) : y.f2 = 0 ∧ y.f3 = 0 ∧ 0 ≤ y.f4 ∧ wrap64 (at_ - y.f4) < rp := by
  have h2 := (mem_step.1 hy).2
  unfold alertOf at h2
  rw [if_neg h] at h2
  split at h2
  · cases h2
  · split at h2
    · rename_i x _ hc
      injection h2 with h2
      rw [← h2]
      exact ⟨rfl, rfl, hc.1, hc.2⟩
    · cases h2
theorem state_ne (c : Prop) [Decidable c] : (if c then (2 : Int) else 1) ≠ 0 := by
  split <;> decide
theorem alert_own {l : List S36} {rule fm rp at_ : Int} {keys : List ByteArray} {y : S36} (hy : y ∈ stepL l rule fm rp at_ keys) : y.f0 = rule := (alert_name (mem_step.1 hy).2).2
theorem bytes_eta (s : ByteArray) : (⟨s.data.toList.toArray⟩ : ByteArray) = s := rfl
theorem alert_again {l : List S36} {rule fm rp at_ : Int} {keys : List ByteArray} {y : S36} (hy : y ∈ stepL l rule fm rp at_ keys) : alertOf (stepL l rule fm rp at_ keys) rule fm rp at_ keys y.f1.data.toList = some y := by
  have hf : findA (stepL l rule fm rp at_ keys) rule y.f1.data.toList = some y := find_unique (fun z hz => alert_own hz) (rise_nodup (rise_step l rule fm rp at_ keys)) hy
  unfold alertOf
  rw [hf]
  by_cases h : hasK keys y.f1.data.toList = true
  · have h2 := holds_alert hy h
    have hne : y.f2 ≠ 0 := by rw [h2]; exact state_ne _
    rw [if_pos h]
    simp only [if_neg hne, ← h2]
    rw [← alert_own hy]
  · obtain ⟨h2, h3, h4, h5⟩ := rest_alert hy h
    rw [if_neg h]
    simp only [if_pos (And.intro h4 h5)]
    rw [← alert_own hy, ← h2]
    congr 2
    · rw [h2, h3]
theorem step_again (l : List S36) (rule fm rp at_ : Int) (keys : List ByteArray) : stepL (stepL l rule fm rp at_ keys) rule fm rp at_ keys = stepL l rule fm rp at_ keys := by
  refine rise_ext (rise_step _ _ _ _ _ _) (rise_step _ _ _ _ _ _) fun y => ⟨fun hy => ?_, fun hy => ?_⟩
  · obtain ⟨h1, h2⟩ := mem_step.1 hy
    rw [mem_names] at h1
    have : ∃ z ∈ stepL l rule fm rp at_ keys, z.f1.data.toList = y.f1.data.toList := by
      rcases h1 with ⟨x, hx, -, h⟩ | h
      · exact ⟨x, hx, h⟩
      · have h3 : ∃ z, alertOf l rule fm rp at_ keys y.f1.data.toList = some z := by
          unfold alertOf
          rw [if_pos h]
          exact ⟨_, rfl⟩
        obtain ⟨z, hz⟩ := h3
        have hn := (alert_name hz).1
        exact ⟨z, mem_step.2 ⟨by rw [hn, mem_names]; exact .inr h, by rw [hn]; exact hz⟩, hn⟩
    obtain ⟨z, hz, hn⟩ := this
    have h3 := alert_again hz
    rw [hn, h2] at h3
    injection h3 with h3
    rw [h3]
    exact hz
  · exact mem_step.2 ⟨(mem_names _ _ _ _).2 (.inl ⟨y, hy, alert_own hy, rfl⟩), alert_again hy⟩
/-! The law's own rounds -/
theorem take36 {l : List S36} {x : Int} (h0 : 0 ≤ x) (h1 : x < l.length) : l.take (x + 1).toNat = l.take x.toNat ++ [rd_T36 l x] := by
  have h2 : x.toNat < l.length := by omega
  rw [toNat_succ h0, List.take_succ_eq_append_getElem h2]
  unfold rd_T36
  rw [List.getD_eq_getElem?_getD, List.getElem?_eq_getElem h2]
  rfl
theorem takeS {l : List ByteArray} {x : Int} (h0 : 0 ≤ x) (h1 : x < l.length) : l.take (x + 1).toNat = l.take x.toNat ++ [rdOf ByteArray.empty l x] := by
  have h2 : x.toNat < l.length := by omega
  rw [toNat_succ h0, List.take_succ_eq_append_getElem h2]
  unfold rdOf
  rw [List.getD_eq_getElem?_getD, List.getElem?_eq_getElem h2]
  rfl
theorem rd36_reverse {l : List S36} {x : Int} (h0 : 0 ≤ x) (h1 : x < l.length) : rd_T36 l.reverse x = rd_T36 l (l.length - 1 - x) := by
  have h2 : x.toNat < l.length := by omega
  have h3 : ((l.length : Int) - 1 - x).toNat = l.length - 1 - x.toNat := by omega
  unfold rd_T36
  rw [List.getD_eq_getElem?_getD, List.getD_eq_getElem?_getD, List.getElem?_reverse h2, h3]
theorem rdS_reverse {l : List ByteArray} {x : Int} (h0 : 0 ≤ x) (h1 : x < l.length) : rdOf ByteArray.empty l.reverse x = rdOf ByteArray.empty l (l.length - 1 - x) := by
  have h2 : x.toNat < l.length := by omega
  have h3 : ((l.length : Int) - 1 - x).toNat = l.length - 1 - x.toNat := by omega
  unfold rdOf
  rw [List.getD_eq_getElem?_getD, List.getD_eq_getElem?_getD, List.getElem?_reverse h2, h3]
theorem unlike_snoc {l : List S36} {y : S36} (h : Unlike l) (hy : ∀ z ∈ l, ¬ Alike z y) : Unlike (l ++ [y]) := by
  unfold Unlike at h ⊢
  rw [List.pairwise_append]
  refine ⟨h, List.pairwise_singleton _ _, fun a ha b hb => ?_⟩
  rw [List.mem_singleton] at hb
  subst hb
  exact hy a ha
theorem others_l3 (l0 : List S36) (rule fm rp at_ : Int) (keys : List ByteArray) (hl0 : l0.length ≤ 200) (hg : ∀ y ∈ l0, good36 y) (hk : keys.length ≤ 200) (hgk : ∀ y ∈ keys, y.size ≤ 9223372036854775807) : ∀ (d : Nat) (x : Int), 0 ≤ x → x ≤ (stepL l0 rule fm rp at_ keys).length → ((stepL l0 rule fm rp at_ keys).length : Int) - x = d →
    Ev (fun k => tocsinlaw22_AlertsOthers.l3 k l0 rule fm rp at_ keys (ownL l0 rule) (stepL l0 rule fm rp at_ keys) x) true := by
  have hn := step_length l0 rule fm rp at_ keys
  have hr := rise_step l0 rule fm rp at_ keys
  have hz := step_size (rule := rule) (fm := fm) (rp := rp) (at_ := at_) (fun y hy => (hg y hy).2.1) hgk
  intro d
  induction d with
  | zero =>
    intro x h0 h1 hd
    refine Ev.step (fun k => by rw [tocsinlaw22_AlertsOthers.l3, if_neg (by omega), step_f (stepL l0 rule fm rp at_ keys) rule fm rp at_ keys (by omega) (by omega) hz hgk, step_again, Option.bind_some]) ?_
    refine Ev.bind (same_ev _ (by omega)) (ev_pos rfl ?_)
    refine Ev.bind (own_ev l0 rule (by omega)) ?_
    have : (ownL l0 rule).length ≤ l0.length := List.length_filter_le _ _
    exact Ev.bind (same_ev _ (by omega)) (Ev.now _)
  | succ d ih =>
    intro x h0 h1 hd
    have hx : x < (stepL l0 rule fm rp at_ keys).length := by omega
    have hm := rd36_mem h0 hx
    have hb : ((((rd_T36 (stepL l0 rule fm rp at_ keys) x).f2) != 0) != hasK keys (rd_T36 (stepL l0 rule fm rp at_ keys) x).f1.data.toList) = false := by
      cases h : hasK keys (rd_T36 (stepL l0 rule fm rp at_ keys) x).f1.data.toList with
      | true =>
        have h2 := holds_alert hm h
        have hne : (rd_T36 (stepL l0 rule fm rp at_ keys) x).f2 ≠ 0 := by rw [h2]; exact state_ne _
        simp [hne]
      | false =>
        have h2 := (rest_alert hm (by rw [h]; simp)).1
        simp [h2]
    have hnext := ih (x + 1) (by omega) (by omega) (by omega)
    by_cases a : x > 0
    · have hlt := rise_at hr (i := x - 1) (j := x) (by omega) (by omega) hx
      refine Ev.step (fun k => by rw [tocsinlaw22_AlertsOthers.l3, if_pos hx, if_pos h0, if_pos (alert_own hm), if_pos a, w64 (x := x - 1) (by omega) (by omega), if_pos (by omega), if_pos (by omega), if_pos (lt_less hlt)]) ?_
      refine Ev.bind (has_ev keys _ (by omega)) ?_
      rw [hb, w64 (x := x + 1) (by omega) (by omega)]
      exact ev_neg (by simp) hnext
    · refine Ev.step (fun k => by rw [tocsinlaw22_AlertsOthers.l3, if_pos hx, if_pos h0, if_pos (alert_own hm), if_neg a]) ?_
      refine Ev.bind (has_ev keys _ (by omega)) ?_
      rw [hb, w64 (x := x + 1) (by omega) (by omega)]
      exact ev_neg (by simp) hnext
theorem others_l2 (l0 : List S36) (hu : Unlike l0) (rule fm rp at_ : Int) (keys : List ByteArray) (hl0 : l0.length ≤ 200) (hg : ∀ y ∈ l0, good36 y) (hk : keys.length ≤ 200) (hgk : ∀ y ∈ keys, y.size ≤ 9223372036854775807) : ∀ (d : Nat) (x : Int), 0 ≤ x → x ≤ keys.length → (keys.length : Int) - x = d →
    Ev (fun k => tocsinlaw22_AlertsOthers.l2 k l0 rule fm rp at_ keys (ownL l0 rule) l0.reverse (keys.reverse.take x.toNat) x) true := by
  intro d
  induction d with
  | zero =>
    intro x h0 h1 hd
    have hn := step_length l0 rule fm rp at_ keys
    have hol : (ownL l0 rule).length ≤ l0.length := List.length_filter_le _ _
    rw [List.take_of_length_le (by rw [List.length_reverse]; omega)]
    refine Ev.step (fun k => by rw [tocsinlaw22_AlertsOthers.l2, if_neg (by omega), step_f l0 rule fm rp at_ keys (by omega) (by omega) (fun y hy => (hg y hy).2.1) hgk, Option.bind_some, step_f (ownL l0 rule) rule fm rp at_ keys (by omega) (by omega) (fun y hy => (hg y (List.mem_filter.1 hy).1).2.1) hgk, Option.bind_some, step_own]) ?_
    refine Ev.bind (same_ev _ (by omega)) (ev_pos rfl ?_)
    rw [step_f l0.reverse rule fm rp at_ keys.reverse (by rw [List.length_reverse]; omega) (by rw [List.length_reverse]; omega) (fun y hy => (hg y (List.mem_reverse.1 hy)).2.1) (fun y hy => hgk y (List.mem_reverse.1 hy)), step_turned hu]
    refine ev_bsome ?_
    refine Ev.bind (same_ev _ (by omega)) ?_
    refine Ev.step (fun k => by rw [tocsinlaw22_AlertsOthers.j6, if_neg (by simp)]) ?_
    exact others_l3 l0 rule fm rp at_ keys hl0 hg hk hgk _ 0 (by omega) (by omega) rfl
  | succ d ih =>
    intro x h0 h1 hd
    have hx : x < keys.length := by omega
    have hlen : (keys.reverse.take x.toNat).length ≤ 200 := by rw [List.length_take, List.length_reverse]; omega
    have hnext := ih (x + 1) (by omega) (by omega) (by omega)
    rw [takeS h0 (by rw [List.length_reverse]; exact hx), rdS_reverse h0 hx] at hnext
    exact Ev.step (fun k => by rw [tocsinlaw22_AlertsOthers.l2, if_pos hx, w64 (x := (keys.length : Int) - 1) (by omega) (by omega), w64 (x := (keys.length : Int) - 1 - x) (by omega) (by omega), if_pos (by omega), if_pos (by omega), if_pos (by omega), w64 (x := x + 1) (by omega) (by omega)]) hnext
theorem others_l1 (l0 : List S36) (rule fm rp at_ : Int) (keys : List ByteArray) (hl0 : l0.length ≤ 200) (own turned : List S36) (ht : turned.length ≤ 200) (x : Int) (h0 : 0 ≤ x) (hx : x < l0.length)
    (hnext : (∀ z ∈ l0.take x.toNat, ¬ Alike z (rd_T36 l0 x)) → Ev (fun k => tocsinlaw22_AlertsOthers.l0 k l0 rule fm rp at_ keys own (turned ++ [rd_T36 l0 (l0.length - 1 - x)]) (x + 1)) true) :
    ∀ (d : Nat) (y : Int), 0 ≤ y → y ≤ x → x - y = d → (∀ z ∈ l0.take y.toNat, ¬ Alike z (rd_T36 l0 x)) → Ev (fun k => tocsinlaw22_AlertsOthers.l1 k l0 rule fm rp at_ keys own turned x y) true := by
  intro d
  induction d with
  | zero =>
    intro y hy0 hy1 hd hz
    obtain rfl : y = x := by omega
    exact Ev.step (fun k => by rw [tocsinlaw22_AlertsOthers.l1, if_neg (by omega), w64 (x := (l0.length : Int) - 1) (by omega) (by omega), w64 (x := (l0.length : Int) - 1 - y) (by omega) (by omega), if_pos (by omega), if_pos (by omega), if_pos (by omega), w64 (x := y + 1) (by omega) (by omega)]) (hnext hz)
  | succ d ih =>
    intro y hy0 hy1 hd hz
    have hyx : y < x := by omega
    have hyl : y < l0.length := by omega
    have hrec : ¬ Alike (rd_T36 l0 y) (rd_T36 l0 x) → Ev (fun k => tocsinlaw22_AlertsOthers.l1 k l0 rule fm rp at_ keys own turned x (y + 1)) true := fun hn => ih (y + 1) (by omega) (by omega) (by omega) fun z hzm => by
      rw [take36 hy0 hyl] at hzm
      rcases List.mem_append.1 hzm with hzm | hzm
      · exact hz z hzm
      · rw [List.mem_singleton] at hzm
        subst hzm
        exact hn
    by_cases a : (rd_T36 l0 y).f0 = (rd_T36 l0 x).f0
    · by_cases b : (rd_T36 l0 y).f1.toList = (rd_T36 l0 x).f1.toList
      · exact Ev.step (fun k => by rw [tocsinlaw22_AlertsOthers.l1, if_pos hyx, if_pos hy0, if_pos hyl, if_pos h0, if_pos hx, if_pos a, if_pos b]) (Ev.now _)
      · exact Ev.step (fun k => by rw [tocsinlaw22_AlertsOthers.l1, if_pos hyx, if_pos hy0, if_pos hyl, if_pos h0, if_pos hx, if_pos a, if_neg b, w64 (x := y + 1) (by omega) (by omega)]) (hrec fun q => b ((toList_eq_iff _ _).2 q.2))
    · exact Ev.step (fun k => by rw [tocsinlaw22_AlertsOthers.l1, if_pos hyx, if_pos hy0, if_pos hyl, if_pos h0, if_pos hx, if_neg a, w64 (x := y + 1) (by omega) (by omega)]) (hrec fun q => a q.1)
theorem others_l0 (l0 : List S36) (rule fm rp at_ : Int) (keys : List ByteArray) (hl0 : l0.length ≤ 200) (hg : ∀ y ∈ l0, good36 y) (hk : keys.length ≤ 200) (hgk : ∀ y ∈ keys, y.size ≤ 9223372036854775807) : ∀ (d : Nat) (x : Int), 0 ≤ x → x ≤ l0.length → (l0.length : Int) - x = d → Unlike (l0.take x.toNat) →
    Ev (fun k => tocsinlaw22_AlertsOthers.l0 k l0 rule fm rp at_ keys (ownL (l0.take x.toNat) rule) (l0.reverse.take x.toNat) x) true := by
  intro d
  induction d with
  | zero =>
    intro x h0 h1 hd hu
    rw [List.take_of_length_le (by omega)] at hu
    rw [List.take_of_length_le (by omega), List.take_of_length_le (by rw [List.length_reverse]; omega)]
    refine Ev.step (fun k => by rw [tocsinlaw22_AlertsOthers.l0, if_neg (by omega)]) ?_
    simpa using others_l2 l0 hu rule fm rp at_ keys hl0 hg hk hgk keys.length 0 (by omega) (by omega) (by omega)
  | succ d ih =>
    intro x h0 h1 hd hu
    have hx : x < l0.length := by omega
    have ht : (l0.reverse.take x.toNat).length ≤ 200 := by rw [List.length_take, List.length_reverse]; omega
    have hol : (ownL (l0.take x.toNat) rule).length ≤ (l0.take x.toNat).length := List.length_filter_le _ _
    have hol2 : (l0.take x.toNat).length ≤ 200 := by rw [List.length_take]; omega
    have hstop : Ev (fun k => tocsinlaw22_AlertsOthers.j2 k l0 rule fm rp at_ keys (ownL (l0.take x.toNat) rule) (l0.reverse.take x.toNat) x true) true := Ev.step (fun k => by rw [tocsinlaw22_AlertsOthers.j2, if_pos rfl]) (Ev.now _)
    have hown : ownL (l0.take (x + 1).toNat) rule = if (rd_T36 l0 x).f0 = rule then ownL (l0.take x.toNat) rule ++ [rd_T36 l0 x] else ownL (l0.take x.toNat) rule := by
      rw [take36 h0 hx]
      unfold ownL
      rw [List.filter_append, List.filter_cons, List.filter_nil]
      by_cases a : (rd_T36 l0 x).f0 = rule
      · rw [if_pos (decide_eq_true a), if_pos a]
      · rw [if_neg (by simp [a]), if_neg a, List.append_nil]
    have hgo : Ev (fun k => tocsinlaw22_AlertsOthers.j3 k l0 rule fm rp at_ keys (ownL (l0.take (x + 1).toNat) rule) (l0.reverse.take x.toNat) x) true := by
      refine Ev.step (fun k => by rw [tocsinlaw22_AlertsOthers.j3]) ?_
      refine others_l1 l0 rule fm rp at_ keys hl0 _ _ ht x h0 hx (fun hz => ?_) x.toNat 0 (by omega) h0 (by omega) (by simp)
      have hnext := ih (x + 1) (by omega) (by omega) (by omega) (by rw [take36 h0 hx]; exact unlike_snoc hu hz)
      rw [take36 (l := l0.reverse) h0 (by rw [List.length_reverse]; exact hx), rd36_reverse h0 hx] at hnext
      exact hnext
    have hj2 : Ev (fun k => tocsinlaw22_AlertsOthers.j2 k l0 rule fm rp at_ keys (ownL (l0.take x.toNat) rule) (l0.reverse.take x.toNat) x false) true := by
      rw [hown] at hgo
      by_cases a : (rd_T36 l0 x).f0 = rule
      · rw [if_pos a] at hgo
        exact Ev.step (fun k => by rw [tocsinlaw22_AlertsOthers.j2, if_neg (by simp), if_pos h0, if_pos hx, if_pos a, if_pos (by omega)]) hgo
      · rw [if_neg a] at hgo
        exact Ev.step (fun k => by rw [tocsinlaw22_AlertsOthers.j2, if_neg (by simp), if_pos h0, if_pos hx, if_neg a]) hgo
    by_cases a : smallB (rd_T36 l0 x).f3 = true
    · refine Ev.step (fun k => by rw [tocsinlaw22_AlertsOthers.l0, if_pos hx, if_pos h0, small_f, Option.bind_some, if_pos a, small_f, Option.bind_some]) ?_
      cases smallB (rd_T36 l0 x).f4 with
      | true => exact hj2
      | false => exact hstop
    · exact Ev.step (fun k => by rw [tocsinlaw22_AlertsOthers.l0, if_pos hx, if_pos h0, small_f, Option.bind_some, if_neg a]) hstop
theorem AlertsOthers : tocsinlaw22_AlertsOthers.Pure := by
  intro l a1 a2 a3 a4 l5 _ _ hg _ _ _ _ _ _ hgk
  refine Ev.rounds ?_
  unfold tocsinlaw22_AlertsOthers.f
  have hj : Ev (fun k => tocsinlaw22_AlertsOthers.j0 k l a1 a2 a3 a4 l5 true) true := Ev.step (fun k => by rw [tocsinlaw22_AlertsOthers.j0, if_pos rfl]) (Ev.now _)
  refine Ev.bind awake (ev_pos rfl ?_)
  obtain ⟨r, hr, hs⟩ := great l l5
  refine Ev.bind hr ?_
  cases r with
  | true => exact ev_pos rfl hj
  | false =>
    refine ev_neg (by simp) ?_
    rw [small_f, small_f, small_f]
    refine ev_bsome ?_
    by_cases b2 : smallB a2 = true
    · refine ev_pos b2 (ev_bsome ?_)
      by_cases b3 : smallB a3 = true
      · refine ev_pos b3 (ev_bsome ?_)
        cases b4 : smallB a4 with
        | false => exact hj
        | true =>
          refine Ev.step (fun k => by rw [tocsinlaw22_AlertsOthers.j0, if_neg (by simp)]) ?_
          simpa [ownL] using others_l0 l a1 a2 a3 a4 l5 (hs rfl).1 hg (hs rfl).2 hgk l.length 0 (by omega) (by omega) (by omega) (by simp [Unlike])
      · exact ev_neg b3 hj
    · exact ev_neg b2 hj
end Go.Proofs.Ytgfkdcckifdcpaa.Pure
