/- Plain laws of alerts: whole rounds, names in lists, what is too great, what stepping alerts on comes to. -/
import Derived.Test.YtgfkdcckifdcpaaQ3
import Derived.Test.YtgfkdcckifdcpaaQ7
import Derived.Test.YtgfkdcckifdcpaaQ5
import Derived.Test.YtgfkdcckifdcpaaQ5
import Derived.Test.YtgfkdcckifdcpaaQ11
namespace Go.Proofs.Ytgfkdcckifdcpaa.Pure
open Go.RowKit Go.Proofs.YtgfkdcckifdcpaaW.PrintWords Go.Proofs.YtgfkdcckifdcpaaW.PrintLast Go.Proofs.Ytgfkdcckifdcpaa.Q
set_option linter.unusedVariables false
set_option linter.unusedSimpArgs false

theorem toNat_succ {x : Int} (h : 0 ≤ x) : (x + 1).toNat = x.toNat + 1 := by omega
theorem w64 {x : Int} (h0 : -9223372036854775808 ≤ x) (h1 : x ≤ 9223372036854775807) : wrap64 x = x := by unfold wrap64; omega
theorem ev_pos {α : Type} {c : Prop} [Decidable c] {A B : Nat → Option α} {r : α} (hc : c) (h : Ev A r) : Ev (fun k => if c then A k else B k) r := Ev.congr (fun _ => if_pos hc) h
theorem ev_neg {α : Type} {c : Prop} [Decidable c] {A B : Nat → Option α} {r : α} (hc : ¬ c) (h : Ev B r) : Ev (fun k => if c then A k else B k) r := Ev.congr (fun _ => if_neg hc) h
theorem ev_some {α : Type} {a r : α} (h : a = r) : Ev (fun _ => some a) r := by rw [h]; exact Ev.now _
theorem ev_bsome {α β : Type} {a : α} {F : Nat → α → Option β} {r : β} (h : Ev (fun k => F k a) r) : Ev (fun k => (some a).bind (F k)) r := h
theorem rd36_mem {l : List S36} {x : Int} (h0 : 0 ≤ x) (h1 : x < l.length) : rd_T36 l x ∈ l := by
  have h2 : x.toNat < l.length := by omega
  unfold rd_T36
  rw [List.getD_eq_getElem?_getD, List.getElem?_eq_getElem h2]
  exact List.getElem_mem h2
theorem rdS_mem {l : List ByteArray} {x : Int} (h0 : 0 ≤ x) (h1 : x < l.length) : rdOf ByteArray.empty l x ∈ l := by
  have h2 : x.toNat < l.length := by omega
  unfold rdOf
  rw [List.getD_eq_getElem?_getD, List.getElem?_eq_getElem h2]
  exact List.getElem_mem h2
theorem drop36 {l : List S36} {x : Int} (h0 : 0 ≤ x) (h1 : x < l.length) : l.drop x.toNat = rd_T36 l x :: l.drop (x + 1).toNat := by
  have h2 : x.toNat < l.length := by omega
  unfold rd_T36
  rw [List.getD_eq_getElem?_getD, List.getElem?_eq_getElem h2, toNat_succ h0]
  exact List.drop_eq_getElem_cons h2
theorem dropS {l : List ByteArray} {x : Int} (h0 : 0 ≤ x) (h1 : x < l.length) : l.drop x.toNat = rdOf ByteArray.empty l x :: l.drop (x + 1).toNat := by
  have h2 : x.toNat < l.length := by omega
  unfold rdOf
  rw [List.getD_eq_getElem?_getD, List.getElem?_eq_getElem h2, toNat_succ h0]
  exact List.drop_eq_getElem_cons h2
/-! Lists that are too great -/
theorem great_l1 (l : List ByteArray) (hl : l.length ≤ 200) : ∀ (d : Nat) (x left : Int), 0 ≤ x → x ≤ l.length → (l.length : Int) - x = d → 0 ≤ left → left ≤ 5000 → ∃ r, Ev (fun k => tocsinlaw22_great.l1 k l left x) r := by
  intro d
  induction d with
  | zero =>
    intro x left h0 h1 hd _ _
    exact ⟨false, Ev.step (fun k => by rw [tocsinlaw22_great.l1, if_neg (by omega)]) (Ev.now _)⟩
  | succ d ih =>
    intro x left h0 h1 hd hl0 hl1
    have hx : x < l.length := by omega
    by_cases a : ((rdOf ByteArray.empty l x).size : Int) > left
    · exact ⟨true, Ev.step (fun k => by rw [tocsinlaw22_great.l1, if_pos hx, if_pos h0, if_pos a]) (Ev.now _)⟩
    · obtain ⟨r, hr⟩ := ih (x + 1) (left - (rdOf ByteArray.empty l x).size) (by omega) (by omega) (by omega) (by omega) (by omega)
      exact ⟨r, Ev.step (fun k => by rw [tocsinlaw22_great.l1, if_pos hx, if_pos h0, if_neg a, w64 (x := left - _) (by omega) (by omega), w64 (x := x + 1) (by omega) (by omega)]) hr⟩
theorem great_l0 (m : List S36) (l : List ByteArray) (hm : m.length ≤ 200) (hl : l.length ≤ 200) : ∀ (d : Nat) (x left : Int), 0 ≤ x → x ≤ m.length → (m.length : Int) - x = d → 0 ≤ left → left ≤ 5000 → ∃ r, Ev (fun k => tocsinlaw22_great.l0 k m l left x) r := by
  intro d
  induction d with
  | zero =>
    intro x left h0 h1 hd h2 h3
    obtain ⟨r, hr⟩ := great_l1 l hl l.length 0 left (by omega) (by omega) (by omega) h2 h3
    exact ⟨r, Ev.step (fun k => by rw [tocsinlaw22_great.l0, if_neg (by omega)]) hr⟩
  | succ d ih =>
    intro x left h0 h1 hd hl0 hl1
    have hx : x < m.length := by omega
    by_cases a : ((rd_T36 m x).f1.size : Int) > left
    · exact ⟨true, Ev.step (fun k => by rw [tocsinlaw22_great.l0, if_pos hx, if_pos h0, if_pos a]) (Ev.now _)⟩
    · obtain ⟨r, hr⟩ := ih (x + 1) (left - (rd_T36 m x).f1.size) (by omega) (by omega) (by omega) (by omega) (by omega)
      exact ⟨r, Ev.step (fun k => by rw [tocsinlaw22_great.l0, if_pos hx, if_pos h0, if_neg a, w64 (x := left - _) (by omega) (by omega), w64 (x := x + 1) (by omega) (by omega)]) hr⟩
theorem great (m : List S36) (l : List ByteArray) : ∃ r, Ev (fun k => tocsinlaw22_great.f k m l) r ∧ (r = false → m.length ≤ 200 ∧ l.length ≤ 200) := by
  have hj : Ev (fun k => tocsinlaw22_great.j0 k m l true) true := Ev.step (fun k => by rw [tocsinlaw22_great.j0, if_pos rfl]) (Ev.now _)
  unfold tocsinlaw22_great.f
  by_cases a : (m.length : Int) > 200
  · exact ⟨true, ev_pos a hj, fun h => by cases h⟩
  · by_cases b : (l.length : Int) > 200
    · refine ⟨true, ev_neg a ?_, fun h => by cases h⟩
      rw [decide_eq_true b]
      exact hj
    · obtain ⟨r, hr⟩ := great_l0 m l (by omega) (by omega) m.length 0 5000 (by omega) (by omega) (by omega) (by omega) (by omega)
      refine ⟨r, ev_neg a ?_, fun h => ⟨by omega, by omega⟩⟩
      rw [decide_eq_false b]
      exact Ev.step (fun k => by rw [tocsinlaw22_great.j0, if_neg (by simp)]) hr
def smallB (x : Int) : Bool := decide (-2305843009213693952 ≤ x ∧ x ≤ 2305843009213693952)
theorem small_f (x : Int) : tocsinlaw22_small.f x = some (smallB x) := by
  unfold tocsinlaw22_small.f smallB
  by_cases a : x ≥ (-2305843009213693952)
  · rw [if_pos a]
    have a' : -2305843009213693952 ≤ x := a
    simp [a']
  · rw [if_neg a]
    have a' : ¬ (-2305843009213693952 ≤ x) := a
    simp [a']
/-! Names in lists -/
theorem toList_eq_iff (a b : ByteArray) : a.toList = b.toList ↔ a.data.toList = b.data.toList := by rw [ByteArray.toList_eq, ByteArray.toList_eq]
theorem has_l0 (l : List ByteArray) (s : ByteArray) (hl : l.length ≤ 1000000) : ∀ (d : Nat) (x : Int), 0 ≤ x → x ≤ l.length → (l.length : Int) - x = d → Ev (fun k => tocsinref22_Has.l0 k l s x) (hasK (l.drop x.toNat) s.data.toList) := by
  intro d
  induction d with
  | zero =>
    intro x h0 h1 hd
    rw [List.drop_eq_nil_of_le (by omega)]
    exact Ev.step (f := fun _ => some false) (fun k => by rw [tocsinref22_Has.l0, if_neg (by omega)]) (Ev.now _)
  | succ d ih =>
    intro x h0 h1 hd
    have hx : x < l.length := by omega
    rw [dropS h0 hx]
    by_cases a : (rdOf ByteArray.empty l x).toList = s.toList
    · have : hasK (rdOf ByteArray.empty l x :: l.drop (x + 1).toNat) s.data.toList = true := by
        unfold hasK
        rw [List.any_cons, decide_eq_true ((toList_eq_iff _ _).1 a), Bool.true_or]
      rw [this]
      exact Ev.step (fun k => by rw [tocsinref22_Has.l0, if_pos hx, if_pos h0, if_pos a]) (Ev.now _)
    · have : hasK (rdOf ByteArray.empty l x :: l.drop (x + 1).toNat) s.data.toList = hasK (l.drop (x + 1).toNat) s.data.toList := by
        unfold hasK
        rw [List.any_cons, decide_eq_false (fun q => a ((toList_eq_iff _ _).2 q)), Bool.false_or]
      rw [this]
      exact Ev.step (fun k => by rw [tocsinref22_Has.l0, if_pos hx, if_pos h0, if_neg a, w64 (x := x + 1) (by omega) (by omega)]) (ih (x + 1) (by omega) (by omega) (by omega))
theorem has_ev (l : List ByteArray) (s : ByteArray) (hl : l.length ≤ 1000000) : Ev (fun k => tocsinref22_Has.f k l s) (hasK l s.data.toList) := by
  have := has_l0 l s hl l.length 0 (by omega) (by omega) (by omega)
  simpa [tocsinref22_Has.f] using this
def firingL (l : List S36) : List ByteArray := (l.filter fun x => decide (x.f2 = 2)).map fun x => x.f1
theorem firing_l0 (l : List S36) (hl : l.length ≤ 1000000) : ∀ (d : Nat) (x : Int) (acc : List ByteArray), 0 ≤ x → x ≤ l.length → (l.length : Int) - x = d → (acc.length : Int) ≤ x → Ev (fun k => alerts_Firing.l0 k acc l l.length x) (acc ++ firingL (l.drop x.toNat)) := by
  intro d
  induction d with
  | zero =>
    intro x acc h0 h1 hd ha
    rw [List.drop_eq_nil_of_le (by omega)]
    exact Ev.step (fun k => by rw [alerts_Firing.l0, if_neg (by omega)]) (ev_some (by simp [firingL]))
  | succ d ih =>
    intro x acc h0 h1 hd ha
    have hx : x < l.length := by omega
    rw [drop36 h0 hx]
    by_cases a : (rd_T36 l x).f2 = 2
    · have : firingL (rd_T36 l x :: l.drop (x + 1).toNat) = (rd_T36 l x).f1 :: firingL (l.drop (x + 1).toNat) := by
        unfold firingL
        rw [List.filter_cons, if_pos (decide_eq_true a), List.map_cons]
      rw [this]
      have ih2 := ih (x + 1) (acc ++ [(rd_T36 l x).f1]) (by omega) (by omega) (by omega) (by rw [List.length_append]; simp; omega)
      rw [List.append_assoc, List.singleton_append] at ih2
      exact Ev.step (fun k => by rw [alerts_Firing.l0, if_pos hx, if_pos h0, if_pos hx, if_pos a, if_pos (by omega), w64 (x := x + 1) (by omega) (by omega)]) ih2
    · have : firingL (rd_T36 l x :: l.drop (x + 1).toNat) = firingL (l.drop (x + 1).toNat) := by
        unfold firingL
        rw [List.filter_cons, if_neg (by simp [a])]
      rw [this]
      exact Ev.step (fun k => by rw [alerts_Firing.l0, if_pos hx, if_pos h0, if_pos hx, if_neg a, w64 (x := x + 1) (by omega) (by omega)]) (ih (x + 1) acc (by omega) (by omega) (by omega) (by omega))
theorem firing_ev (l : List S36) (hl : l.length ≤ 1000000) : Ev (fun k => alerts_Firing.f k l) (firingL l) := by
  have := firing_l0 l hl l.length 0 [] (by omega) (by omega) (by omega) (by simp)
  simpa [alerts_Firing.f] using this
/-! What stepping on comes to -/
theorem step_f (l : List S36) (rule fm rp at_ : Int) (keys : List ByteArray) (hl : l.length ≤ 1000) (hk : keys.length ≤ 1000) (hgl : ∀ y ∈ l, y.f1.size ≤ 9223372036854775807) (hgk : ∀ y ∈ keys, y.size ≤ 9223372036854775807) :
    alerts_Step.f l rule fm rp at_ keys = some (stepL l rule fm rp at_ keys) := by
  unfold alerts_Step.f
  exact if_pos ⟨by omega, List.all_eq_true.2 fun x hx => decide_eq_true (hgl x hx), List.all_eq_true.2 fun x hx => decide_eq_true (hgk x hx)⟩
theorem hasK_iff (l : List ByteArray) (n : List UInt8) : hasK l n = true ↔ ∃ s ∈ l, s.data.toList = n := by
  unfold hasK
  rw [List.any_eq_true]
  constructor
  · rintro ⟨s, hs, h⟩; exact ⟨s, hs, of_decide_eq_true h⟩
  · rintro ⟨s, hs, h⟩; exact ⟨s, hs, decide_eq_true h⟩
theorem mem_names (l : List S36) (rule : Int) (keys : List ByteArray) (n : List UInt8) : n ∈ namesA l rule keys ↔ (∃ x ∈ l, x.f0 = rule ∧ x.f1.data.toList = n) ∨ hasK keys n = true := by
  unfold namesA
  rw [(sortA_perm _).mem_iff, mem_dedupA, baseA, List.mem_append, List.mem_map, List.mem_map, hasK_iff]
  constructor
  · rintro (⟨x, hx, rfl⟩ | h)
    · rw [List.mem_filter] at hx
      exact .inl ⟨x, hx.1, of_decide_eq_true hx.2, rfl⟩
    · exact .inr h
  · rintro (⟨x, hx, hr, rfl⟩ | h)
    · exact .inl ⟨x, List.mem_filter.2 ⟨hx, decide_eq_true hr⟩, rfl⟩
    · exact .inr h
theorem nodup_names (l : List S36) (rule : Int) (keys : List ByteArray) : (namesA l rule keys).Nodup := (sortA_perm _).nodup_iff.2 (nodup_dedupA _)
/-- Names that rise. -/
def Lt (a b : List UInt8) : Prop := Go.leB a b = true ∧ a ≠ b
theorem lt_irrefl (a : List UInt8) : ¬ Lt a a := fun h => h.2 rfl
theorem lt_trans {a b c : List UInt8} (h : Lt a b) (k : Lt b c) : Lt a c := ⟨leB_tr _ _ _ h.1 k.1, fun q => by subst q; exact h.2 (leB_anti h.1 k.1)⟩
theorem lt_asymm {a b : List UInt8} (h : Lt a b) (k : Lt b a) : False := lt_irrefl a (lt_trans h k)
theorem rise_names (l : List S36) (rule : Int) (keys : List ByteArray) : (namesA l rule keys).Pairwise Lt := (sortA_sorted _).and (nodup_names l rule keys)
theorem dedup_length : ∀ l : List (List UInt8), (dedupA l).length ≤ l.length
  | [] => Nat.le_refl _
  | x :: l => by
    unfold dedupA
    have := dedup_length l
    split <;> simp <;> omega
theorem names_length (l : List S36) (rule : Int) (keys : List ByteArray) : (namesA l rule keys).length ≤ l.length + keys.length := by
  unfold namesA
  rw [(sortA_perm _).length_eq]
  refine Nat.le_trans (dedup_length _) ?_
  unfold baseA
  rw [List.length_append, List.length_map, List.length_map]
  have := List.length_filter_le (fun x : S36 => decide (x.f0 = rule)) l
  omega
theorem step_length (l : List S36) (rule fm rp at_ : Int) (keys : List ByteArray) : (stepL l rule fm rp at_ keys).length ≤ l.length + keys.length :=
  Nat.le_trans (List.length_filterMap_le _ _) (names_length l rule keys)
theorem alert_name {l : List S36} {rule fm rp at_ : Int} {keys : List ByteArray} {n : List UInt8} {y : S36} (h : alertOf l rule fm rp at_ keys n = some y) : y.f1.data.toList = n ∧ y.f0 = rule := by
  unfold alertOf at h
  split at h
  · injection h with h
    subst h
    exact ⟨rfl, rfl⟩
  · split at h
    · cases h
    · split at h
      · injection h with h
        subst h
        exact ⟨rfl, rfl⟩
      · cases h
theorem find_name {l : List S36} {rule : Int} {n : List UInt8} {x : S36} (h : findA l rule n = some x) : x ∈ l ∧ x.f0 = rule ∧ x.f1.data.toList = n := by
  unfold findA at h
  have h2 := List.find?_some h
  rw [Bool.and_eq_true] at h2
  exact ⟨List.mem_of_find?_eq_some h, of_decide_eq_true h2.1, of_decide_eq_true h2.2⟩
theorem mem_step {l : List S36} {rule fm rp at_ : Int} {keys : List ByteArray} {y : S36} : y ∈ stepL l rule fm rp at_ keys ↔ y.f1.data.toList ∈ namesA l rule keys ∧ alertOf l rule fm rp at_ keys y.f1.data.toList = some y := by
  unfold stepL
  rw [List.mem_filterMap]
  constructor
  · rintro ⟨n, hn, h⟩
    obtain ⟨rfl, -⟩ := alert_name h
    exact ⟨hn, h⟩
  · rintro ⟨hn, h⟩
    exact ⟨_, hn, h⟩
theorem rise_filterMap {f : List UInt8 → Option S36} (hf : ∀ n y, f n = some y → y.f1.data.toList = n) : ∀ {l : List (List UInt8)}, l.Pairwise Lt → ((l.filterMap f).map fun y => y.f1.data.toList).Pairwise Lt
  | [], _ => List.Pairwise.nil
  | n :: l, h => by
    rw [List.pairwise_cons] at h
    have ih := rise_filterMap hf h.2
    cases hn : f n with
    | none => rw [List.filterMap_cons, hn]; exact ih
    | some y =>
      rw [List.filterMap_cons, hn, List.map_cons, List.pairwise_cons]
      refine ⟨fun m hm => ?_, ih⟩
      rw [hf _ _ hn]
      obtain ⟨z, hz, rfl⟩ := List.mem_map.1 hm
      obtain ⟨q, hq, hqz⟩ := List.mem_filterMap.1 hz
      rw [hf _ _ hqz]
      exact h.1 q hq
theorem rise_step (l : List S36) (rule fm rp at_ : Int) (keys : List ByteArray) : ((stepL l rule fm rp at_ keys).map fun y => y.f1.data.toList).Pairwise Lt :=
  rise_filterMap (fun _ _ h => (alert_name h).1) (rise_names l rule keys)
theorem step_size {l : List S36} {rule fm rp at_ : Int} {keys : List ByteArray} (hgl : ∀ y ∈ l, y.f1.size ≤ 9223372036854775807) (hgk : ∀ y ∈ keys, y.size ≤ 9223372036854775807) : ∀ y ∈ stepL l rule fm rp at_ keys, y.f1.size ≤ 9223372036854775807 := by
  intro y hy
  have h := (mem_step.1 hy).1
  rw [mem_names, hasK_iff] at h
  have hsz : y.f1.size = y.f1.data.toList.length := Array.length_toList.symm
  rcases h with ⟨x, hx, -, h⟩ | ⟨s, hs, h⟩
  · have h2 := hgl x hx
    have : x.f1.size = x.f1.data.toList.length := Array.length_toList.symm
    rw [hsz, ← h, ← this]; exact h2
  · have h2 := hgk s hs
    have : s.size = s.data.toList.length := Array.length_toList.symm
    rw [hsz, ← h, ← this]; exact h2
theorem rise_at {l : List S36} (h : (l.map fun y => y.f1.data.toList).Pairwise Lt) {i j : Int} (h0 : 0 ≤ i) (hij : i < j) (hj : j < l.length) : Lt (rd_T36 l i).f1.data.toList (rd_T36 l j).f1.data.toList := by
  have hi2 : i.toNat < l.length := by omega
  have hj2 : j.toNat < l.length := by omega
  have := List.pairwise_iff_getElem.1 h i.toNat j.toNat (by simpa using hi2) (by simpa using hj2) (by omega)
  unfold rd_T36
  rw [List.getD_eq_getElem?_getD, List.getElem?_eq_getElem hi2, List.getD_eq_getElem?_getD, List.getElem?_eq_getElem hj2]
  simpa using this
theorem mem_at {l : List S36} {y : S36} (h : y ∈ l) : ∃ p : Int, 0 ≤ p ∧ p < l.length ∧ rd_T36 l p = y := by
  obtain ⟨i, hi, rfl⟩ := List.mem_iff_getElem.1 h
  refine ⟨(i : Int), by omega, by omega, ?_⟩
  unfold rd_T36
  rw [Int.toNat_natCast, List.getD_eq_getElem?_getD, List.getElem?_eq_getElem hi]
  rfl
theorem find_unique {l : List S36} {rule : Int} (hr : ∀ y ∈ l, y.f0 = rule) (hn : (l.map fun y => y.f1.data.toList).Nodup) {y : S36} (hy : y ∈ l) : findA l rule y.f1.data.toList = some y := by
  cases h : findA l rule y.f1.data.toList with
  | none =>
    unfold findA at h
    have := List.find?_eq_none.1 h y hy
    simp [hr y hy] at this
  | some x =>
    obtain ⟨hx, -, hxn⟩ := find_name h
    obtain ⟨i, hi, rfl⟩ := List.mem_iff_getElem.1 hx
    obtain ⟨j, hj, rfl⟩ := List.mem_iff_getElem.1 hy
    rcases Nat.lt_trichotomy i j with h | h | h
    · exact absurd (by rw [List.getElem_map, List.getElem_map]; exact hxn) (List.pairwise_iff_getElem.1 hn i j (by simpa using hi) (by simpa using hj) h)
    · subst h; rfl
    · exact absurd (by rw [List.getElem_map, List.getElem_map]; exact hxn.symm) (List.pairwise_iff_getElem.1 hn j i (by simpa using hj) (by simpa using hi) h)
theorem rise_nodup {l : List (List UInt8)} (h : l.Pairwise Lt) : l.Nodup := h.imp fun h => h.2
end Go.Proofs.Ytgfkdcckifdcpaa.Pure
