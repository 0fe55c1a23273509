/- What AlertsHold comes to, in plain words: stepped on from instant to instant, alerts are what has held, since when, and when it was told. -/
import Derived.Test.YtgfkdcckifdcpaaQ5
import Derived.Test.YtgfkdcckifdcpaaBaseP
import Derived.Test.YtgfkdcckifdcpaaAwakeP
namespace Go.Proofs.Ytgfkdcckifdcpaa.Pure
open Go.RowKit Go.Proofs.YtgfkdcckifdcpaaW.PrintWords Go.Proofs.YtgfkdcckifdcpaaW.PrintLast Go.Proofs.Ytgfkdcckifdcpaa.Q
set_option linter.unusedVariables false
set_option linter.unusedSimpArgs false

theorem rise_ext : ∀ {l m : List S36}, (l.map fun y => y.f1.data.toList).Pairwise Lt → (m.map fun y => y.f1.data.toList).Pairwise Lt → (∀ y, y ∈ l ↔ y ∈ m) → l = m
  | [], [], _, _, _ => rfl
  | [], y :: m, _, _, h => absurd ((h y).2 List.mem_cons_self) (by simp)
  | x :: l, [], _, _, h => absurd ((h x).1 List.mem_cons_self) (by simp)
  | x :: l, y :: m, hl, hm, h => by
    rw [List.map_cons, List.pairwise_cons] at hl hm
    have hxy : x = y := by
      rcases List.mem_cons.1 ((h x).1 List.mem_cons_self) with e | e
      · exact e
      · rcases List.mem_cons.1 ((h y).2 List.mem_cons_self) with e2 | e2
        · exact e2.symm
        · exact (lt_asymm (hm.1 _ (List.mem_map_of_mem (f := fun y : S36 => y.f1.data.toList) e)) (hl.1 _ (List.mem_map_of_mem (f := fun y : S36 => y.f1.data.toList) e2))).elim
    subst hxy
    congr 1
    refine rise_ext hl.2 hm.2 fun z => ⟨fun hz => ?_, fun hz => ?_⟩
    · rcases List.mem_cons.1 ((h z).1 (List.mem_cons_of_mem _ hz)) with rfl | e
      · exact (lt_irrefl _ (hl.1 _ (List.mem_map_of_mem (f := fun y : S36 => y.f1.data.toList) hz))).elim
      · exact e
    · rcases List.mem_cons.1 ((h z).2 (List.mem_cons_of_mem _ hz)) with rfl | e
      · exact (lt_irrefl _ (hm.1 _ (List.mem_map_of_mem (f := fun y : S36 => y.f1.data.toList) hz))).elim
      · exact e
/-! The six names -/
def six : List ByteArray := [⟨#[]⟩, ⟨#[97]⟩, ⟨#[98]⟩, ⟨#[99]⟩, ⟨#[100]⟩, ⟨#[101]⟩]
def sx (k : Nat) : ByteArray := six.getD k ByteArray.empty
def nm (k : Nat) : List UInt8 := (sx k).data.toList
theorem six_mem {s : ByteArray} (h : s ∈ six) : ∃ k, k < 6 ∧ s = sx k := by
  obtain ⟨k, hk, rfl⟩ := List.mem_iff_getElem.1 h
  exact ⟨k, hk, by unfold sx; rw [List.getD_eq_getElem?_getD, List.getElem?_eq_getElem hk]; rfl⟩
theorem nm_rise : ((List.range 6).map nm).Pairwise Lt := by unfold Lt; decide +kernel
theorem nm_inj : ∀ {i j : Nat}, i < 6 → j < 6 → nm i = nm j → i = j := fun {i j} hi hj h => (show ∀ i : Fin 6, ∀ j : Fin 6, nm i.1 = nm j.1 → i.1 = j.1 from by decide +kernel) ⟨i, hi⟩ ⟨j, hj⟩ h
theorem nm_toArray (k : Nat) : (⟨(nm k).toArray⟩ : ByteArray) = sx k := rfl
theorem sx_size : ∀ {k : Nat}, k < 6 → (sx k).size ≤ 1 := by decide +kernel
def InSix (l : List ByteArray) : Prop := l.length ≤ 6 ∧ ∀ s ∈ l, ∃ k, k < 6 ∧ s = sx k
theorem names_l0 (a : Int) : ∀ (d k : Nat), k ≤ 6 → 6 - k = d → ∀ (acc : List ByteArray), acc.length ≤ k → (∀ s ∈ acc, ∃ k, k < 6 ∧ s = sx k) → ∃ r, Ev (fun n => tocsinlaw22_names.l0 n a six acc k) r ∧ InSix r := by
  intro d
  induction d with
  | zero =>
    intro k hk hd acc ha hs
    exact ⟨acc, Ev.step (fun n => by rw [tocsinlaw22_names.l0, if_neg (by omega)]) (Ev.now _), by omega, hs⟩
  | succ d ih =>
    intro k hk hd acc ha hs
    have hl : six.length = 6 := rfl
    have hw : wrap64 ((k : Int) + 1) = ((k + 1 : Nat) : Int) := w64 (by omega) (by omega)
    by_cases b : Go.bits .and .i64 (shr .i64 a k) 1 = 1
    · have hr : rdOf ByteArray.empty six (k : Int) = sx k := rfl
      obtain ⟨r, hr1, hr2⟩ := ih (k + 1) (by omega) (by omega) (acc ++ [sx k]) (by rw [List.length_append]; simp; omega) (fun s h => by
        rcases List.mem_append.1 h with h | h
        · exact hs s h
        · rw [List.mem_singleton] at h
          exact ⟨k, by omega, h⟩)
      exact ⟨r, Ev.step (fun n => by rw [tocsinlaw22_names.l0, if_pos (by omega), if_pos (by omega), if_pos b, if_pos (by omega), if_pos (by omega), hr, hw]) hr1, hr2⟩
    · obtain ⟨r, hr1, hr2⟩ := ih (k + 1) (by omega) (by omega) acc (by omega) hs
      exact ⟨r, Ev.step (fun n => by rw [tocsinlaw22_names.l0, if_pos (by omega), if_pos (by omega), if_neg b, hw]) hr1, hr2⟩
theorem names_ev (a : Int) : ∃ r, Ev (fun n => tocsinlaw22_names.f n a) r ∧ InSix r := by
  obtain ⟨r, h1, h2⟩ := names_l0 a 6 0 (by omega) (by omega) [] (by simp) (by simp)
  exact ⟨r, h1, h2⟩
theorem names_all : Ev (fun n => tocsinlaw22_names.f n 63) six := Ev.of (tocsinlaw22_names.mono 63) (k := 8) (by decide +kernel)
/-! What an instant leaves -/
/-- What is known of one key, and its alert: it holds since s; or it is quiet, told at t; or it is not there. -/
def Cond (rule : Int) (k : Nat) (e : Option S36) (s t : Int) (h : Bool) : Prop :=
  (h = true ∧ -1 ≤ t ∧ ∃ y, e = some y ∧ y.f0 = rule ∧ y.f1 = sx k ∧ y.f2 ≠ 0 ∧ y.f3 = s ∧ y.f4 = t) ∨
  (h = false ∧ 0 ≤ t ∧ ∃ y, e = some y ∧ y.f0 = rule ∧ y.f1 = sx k ∧ y.f2 = 0 ∧ y.f4 = t) ∨
  (h = false ∧ t = -1 ∧ e = none)
def listE (E : Nat → Option S36) : List S36 := (List.range 6).filterMap E
def Named (rule : Int) (E : Nat → Option S36) : Prop := ∀ k, k < 6 → ∀ y, E k = some y → y.f0 = rule ∧ y.f1 = sx k
theorem cond_named {rule : Int} {k : Nat} {e : Option S36} {s t : Int} {h : Bool} (c : Cond rule k e s t h) : ∀ y, e = some y → y.f0 = rule ∧ y.f1 = sx k := by
  intro y hy
  rcases c with ⟨-, -, z, hz, h1, h2, -⟩ | ⟨-, -, z, hz, h1, h2, -⟩ | ⟨-, -, hz⟩
  · rw [hz] at hy; injection hy with hy; subst hy; exact ⟨h1, h2⟩
  · rw [hz] at hy; injection hy with hy; subst hy; exact ⟨h1, h2⟩
  · rw [hz] at hy; cases hy
theorem rise_E {E : Nat → Option S36} (h : ∀ k, k < 6 → ∀ y, E k = some y → y.f1 = sx k) : ∀ {l : List Nat}, (∀ k ∈ l, k < 6) → (l.map nm).Pairwise Lt → ((l.filterMap E).map fun y => y.f1.data.toList).Pairwise Lt
  | [], _, _ => List.Pairwise.nil
  | k :: l, hl, hp => by
    rw [List.map_cons, List.pairwise_cons] at hp
    have ih := rise_E h (fun j hj => hl j (List.mem_cons_of_mem _ hj)) hp.2
    cases hk : E k with
    | none => rw [List.filterMap_cons, hk]; exact ih
    | some y =>
      rw [List.filterMap_cons, hk, List.map_cons, List.pairwise_cons]
      refine ⟨fun m hm => ?_, ih⟩
      obtain ⟨z, hz, rfl⟩ := List.mem_map.1 hm
      obtain ⟨j, hj, hjz⟩ := List.mem_filterMap.1 hz
      rw [h k (hl k List.mem_cons_self) y hk, h j (hl j (List.mem_cons_of_mem _ hj)) z hjz]
      exact hp.1 _ (List.mem_map_of_mem hj)
theorem rise_listE {rule : Int} {E : Nat → Option S36} (h : Named rule E) : ((listE E).map fun y => y.f1.data.toList).Pairwise Lt :=
  rise_E (fun k hk y hy => (h k hk y hy).2) (fun k hk => List.mem_range.1 hk) nm_rise
theorem find_E {rule : Int} {E : Nat → Option S36} (h : Named rule E) {k : Nat} (hk : k < 6) : findA (listE E) rule (nm k) = E k := by
  cases he : E k with
  | some y =>
    have hy : y ∈ listE E := List.mem_filterMap.2 ⟨k, List.mem_range.2 hk, he⟩
    have := find_unique (rule := rule) (fun z hz => by
      obtain ⟨j, hj, hjz⟩ := List.mem_filterMap.1 hz
      exact (h j (List.mem_range.1 hj) z hjz).1) (rise_nodup (rise_listE h)) hy
    rw [(h k hk y he).2] at this
    exact this
  | none =>
    cases h2 : findA (listE E) rule (nm k) with
    | none => rfl
    | some y =>
      obtain ⟨hy, -, hn⟩ := find_name h2
      obtain ⟨j, hj, hjz⟩ := List.mem_filterMap.1 hy
      rw [(h j (List.mem_range.1 hj) y hjz).2] at hn
      have := nm_inj (List.mem_range.1 hj) hk hn
      subst this
      rw [he] at hjz
      cases hjz
/-- What the next instant makes of a key. -/
def nextE (E : Nat → Option S36) (rule fm rp at_ : Int) (keys : List ByteArray) (k : Nat) : Option S36 := alertOf (listE E) rule fm rp at_ keys (nm k)
theorem next_named (E : Nat → Option S36) (rule fm rp at_ : Int) (keys : List ByteArray) : Named rule (nextE E rule fm rp at_ keys) := by
  intro k hk y hy
  obtain ⟨h1, h2⟩ := alert_name hy
  exact ⟨h2, by rw [← nm_toArray, ← h1]⟩
theorem step_E {rule : Int} {E : Nat → Option S36} (h : Named rule E) (fm rp at_ : Int) {keys : List ByteArray} (hk : InSix keys) : stepL (listE E) rule fm rp at_ keys = listE (nextE E rule fm rp at_ keys) := by
  refine rise_ext (rise_step _ _ _ _ _ _) (rise_listE (next_named E rule fm rp at_ keys)) fun y => ?_
  rw [mem_step, mem_names]
  constructor
  · rintro ⟨h1, h2⟩
    have : ∃ k, k < 6 ∧ y.f1.data.toList = nm k := by
      rcases h1 with ⟨x, hx, -, hn⟩ | h1
      · obtain ⟨j, hj, hjx⟩ := List.mem_filterMap.1 hx
        refine ⟨j, List.mem_range.1 hj, ?_⟩
        rw [← hn, (h j (List.mem_range.1 hj) x hjx).2]
        rfl
      · obtain ⟨s, hs, hn⟩ := (hasK_iff _ _).1 h1
        obtain ⟨k, hk6, rfl⟩ := hk.2 s hs
        exact ⟨k, hk6, hn.symm⟩
    obtain ⟨k, hk6, hn⟩ := this
    rw [hn] at h2
    exact List.mem_filterMap.2 ⟨k, List.mem_range.2 hk6, h2⟩
  · intro hy
    obtain ⟨k, hk6, hky⟩ := List.mem_filterMap.1 hy
    have hk6 := List.mem_range.1 hk6
    have hn := (alert_name hky).1
    rw [hn]
    refine ⟨?_, hky⟩
    unfold nextE alertOf at hky
    by_cases b : hasK keys (nm k) = true
    · exact .inr b
    · rw [if_neg b] at hky
      cases hf : findA (listE E) rule (nm k) with
      | none => rw [hf] at hky; cases hky
      | some x =>
        obtain ⟨hx, hxr, hxn⟩ := find_name hf
        exact .inl ⟨x, hx, hxr, hxn⟩
def sinceO (at_ s : Int) (h : Bool) : Int := if h = true then s else at_
theorem next_holds {rule : Int} {E : Nat → Option S36} (hE : Named rule E) {k : Nat} (hk : k < 6) {s t : Int} {h : Bool} (c : Cond rule k (E k) s t h) (fm rp at_ : Int) {keys : List ByteArray} (b : hasK keys (nm k) = true) :
    nextE E rule fm rp at_ keys k = some ⟨rule, sx k, if fm ≤ wrap64 (at_ - sinceO at_ s h) then 2 else 1, sinceO at_ s h, t⟩ := by
  unfold nextE alertOf
  rw [if_pos b, find_E hE hk, nm_toArray]
  unfold sinceO
  rcases c with ⟨rfl, -, y, hy, h0, h1, h2, h3, h4⟩ | ⟨rfl, -, y, hy, h0, h1, h2, h4⟩ | ⟨rfl, rfl, hy⟩
  · rw [hy]
    simp only [if_neg h2, if_pos, h3, h4]
  · rw [hy]
    simp only [if_pos h2, h4]
    simp
  · rw [hy]
    simp
theorem next_rest {rule : Int} {E : Nat → Option S36} (hE : Named rule E) {k : Nat} (hk : k < 6) {s t : Int} {h : Bool} (c : Cond rule k (E k) s t h) (fm rp at_ : Int) {keys : List ByteArray} (b : ¬ hasK keys (nm k) = true) :
    nextE E rule fm rp at_ keys k = if 0 ≤ t ∧ wrap64 (at_ - t) < rp then some ⟨rule, sx k, 0, 0, t⟩ else none := by
  unfold nextE alertOf
  rw [if_neg b, find_E hE hk, nm_toArray]
  rcases c with ⟨rfl, -, y, hy, h0, h1, h2, h3, h4⟩ | ⟨rfl, -, y, hy, h0, h1, h2, h4⟩ | ⟨rfl, rfl, hy⟩
  · rw [hy]
    simp only [h4]
  · rw [hy]
    simp only [h4]
  · rw [hy, if_neg (by omega)]
theorem cond_low {rule : Int} {k : Nat} {e : Option S36} {s t : Int} {h : Bool} (c : Cond rule k e s t h) : -1 ≤ t := by
  rcases c with ⟨-, h, -⟩ | ⟨-, h, -⟩ | ⟨-, h, -⟩ <;> omega
/-! The law's own rounds -/
theorem rd_set (l : List Int) (k : Nat) (v : Int) (hk : k < l.length) (j : Nat) : rd (l.set k v) j = if j = k then v else rd l j := by
  unfold rd
  rw [Int.toNat_natCast, List.getD_eq_getElem?_getD, List.getD_eq_getElem?_getD, List.getElem?_set]
  by_cases h : k = j
  · subst h; simp [hk]
  · rw [if_neg h, if_neg (fun q => h q.symm)]
theorem rdB_set (l : List Bool) (k : Nat) (v : Bool) (hk : k < l.length) (j : Nat) : rdOf false (l.set k v) j = if j = k then v else rdOf false l j := by
  unfold rdOf
  rw [Int.toNat_natCast, List.getD_eq_getElem?_getD, List.getD_eq_getElem?_getD, List.getElem?_set]
  by_cases h : k = j
  · subst h; simp [hk]
  · rw [if_neg h, if_neg (fun q => h q.symm)]
def restE (E : Nat → Option S36) (k : Nat) : List S36 := (List.range' k (6 - k)).filterMap E
theorem rest_step (E : Nat → Option S36) {k : Nat} (hk : k < 6) : restE E k = (E k).toList ++ restE E (k + 1) := by
  unfold restE
  rw [show 6 - k = (6 - (k + 1)) + 1 from by omega, List.range'_succ, List.filterMap_cons]
  cases E k <;> rfl
theorem rest_start (E : Nat → Option S36) : restE E 0 = listE E := by
  unfold restE listE
  rw [List.range_eq_range']
theorem rest_end (E : Nat → Option S36) : restE E 6 = [] := rfl
def headE (E : Nat → Option S36) (k : Nat) : List S36 := (List.range k).filterMap E
theorem head_put (E : Nat → Option S36) (k : Nat) (e : Option S36) : headE (fun j => if j = k then e else E j) (k + 1) = headE E k ++ e.toList := by
  unfold headE
  rw [List.range_succ, List.filterMap_append]
  congr 1
  · have h : ∀ l : List Nat, (∀ j ∈ l, j ≠ k) → l.filterMap (fun j => if j = k then e else E j) = l.filterMap E := by
      intro l
      induction l with
      | nil => intro _; rfl
      | cons x l ih =>
        intro hl
        rw [List.filterMap_cons, List.filterMap_cons, if_neg (hl x List.mem_cons_self), ih fun j hj => hl j (List.mem_cons_of_mem _ hj)]
    exact h _ fun j hj => by have := List.mem_range.1 hj; omega
  · rw [List.filterMap_cons, if_pos rfl]
    cases e <;> rfl
/-- The law's lists at a key of an instant: what lies ahead of it is done, what lies behind it is as it was. -/
structure At (rule : Int) (E0 E : Nat → Option S36) (k : Nat) (S0 T0 : Nat → Int) (H0 : Nat → Bool) (S T : List Int) (H : List Bool) : Prop where
  ls : S.length = 6
  lt : T.length = 6
  lh : H.length = 6
  done : ∀ j, j < k → Cond rule j (E j) (rd S j) (rd T j) (rdOf false H j)
  was : ∀ j, k ≤ j → j < 6 → rd S j = S0 j ∧ rd T j = T0 j ∧ rdOf false H j = H0 j
theorem At.put {rule : Int} {E0 E : Nat → Option S36} {k : Nat} {S0 T0 : Nat → Int} {H0 : Nat → Bool} {S T : List Int} {H : List Bool} (h : At rule E0 E k S0 T0 H0 S T H) (hk : k < 6) {e : Option S36} {S' T' : List Int} {H' : List Bool}
    (s t : Int) (b : Bool) (hls : S'.length = 6) (hlt : T'.length = 6) (hlh : H'.length = 6) (hS : ∀ j : Nat, rd S' j = if j = k then s else rd S j) (hT : ∀ j : Nat, rd T' j = if j = k then t else rd T j) (hH : ∀ j : Nat, rdOf false H' j = if j = k then b else rdOf false H j) (hc : Cond rule k e s t b) :
    At rule E0 (fun j => if j = k then e else E j) (k + 1) S0 T0 H0 S' T' H' := by
  refine ⟨hls, hlt, hlh, fun j hj => ?_, fun j hj hj6 => ?_⟩
  · by_cases q : j = k
    · subst q
      rw [if_pos rfl, hS, hT, hH, if_pos rfl, if_pos rfl, if_pos rfl]
      exact hc
    · rw [if_neg q, hS, hT, hH, if_neg q, if_neg q, if_neg q]
      exact h.done j (by omega)
  · have q : ¬ j = k := by omega
    rw [hS, hT, hH, if_neg q, if_neg q, if_neg q]
    exact h.was j (by omega) hj6
theorem head_len (E : Nat → Option S36) (k : Nat) : (headE E k).length ≤ k := Nat.le_trans (List.length_filterMap_le _ _) (by simp)
theorem rest_len (E : Nat → Option S36) (k : Nat) : (restE E k).length ≤ 6 - k := Nat.le_trans (List.length_filterMap_le _ _) (by simp)
theorem same_rd (l : List Int) (k : Nat) (v : Int) (h : rd l k = v) (j : Nat) : rd l j = if j = k then v else rd l j := by
  by_cases q : j = k
  · subst q; rw [if_pos rfl, h]
  · rw [if_neg q]
theorem rd_mid (A : List S36) (y : S36) (B : List S36) : rd_T36 (A ++ y :: B) (A.length : Int) = y := by
  unfold rd_T36
  rw [Int.toNat_natCast, List.getD_eq_getElem?_getD, List.getElem?_append_right (Nat.le_refl _)]
  simp
theorem set_mid (A : List S36) (y z : S36) (B : List S36) : (A ++ y :: B).set A.length z = A ++ z :: B := by
  rw [List.set_append_right _ _ (Nat.le_refl _)]
  simp
theorem wn (n : Nat) (h : n ≤ 6) : wrap64 ((n : Int) + 1) = ((n + 1 : Nat) : Int) := (w64 (x := (n : Int) + 1) (by omega) (by omega)).trans (by omega)
theorem list_len (E : Nat → Option S36) : (listE E).length ≤ 6 := Nat.le_trans (List.length_filterMap_le _ _) (by simp)
theorem mem_list {E : Nat → Option S36} {y : S36} (h : y ∈ listE E) : ∃ j, j < 6 ∧ E j = some y := by
  obtain ⟨j, hj, h2⟩ := List.mem_filterMap.1 h
  exact ⟨j, List.mem_range.1 hj, h2⟩
theorem head_six (E : Nat → Option S36) : headE E 6 = listE E := rfl
theorem more_le (x : Int) : 0 ≤ Int.tmod (wrap64 (Int.tmod x 1000 + 1000)) 1000 ∧ Int.tmod (wrap64 (Int.tmod x 1000 + 1000)) 1000 ≤ 999 := by
  have h1 := Int.tmod_lt_of_pos x (show (0 : Int) < 1000 by omega)
  have h2 : -1000 < Int.tmod x 1000 := by
    have := Int.lt_tmod_of_pos x (show (0 : Int) < 1000 by omega)
    omega
  rw [w64 (x := Int.tmod x 1000 + 1000) (by omega) (by omega), Int.tmod_eq_emod_of_nonneg (by omega)]
  omega
end Go.Proofs.Ytgfkdcckifdcpaa.Pure
