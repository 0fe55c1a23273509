/- What SeriesApart comes to, in plain words; rows of acts that were accepted. No law is proved here. -/
import Derived.Test.YtlhlaadnifkdhaaSerS
namespace Go.Proofs.Ytlhlaadnifkdhaa.Sr
open Go.RowKit Go.Proofs.YtlhlaadnifkdhaaW.PrintWords Go.Proofs.YtlhlaadnifkdhaaW.PrintLast Go.Proofs.YtlhlaadnifkdhaaW.PrintMore Go.Proofs.Ytlhlaadnifkdhaa.Q Go.Proofs.Ytlhlaadnifkdhaa.Own Go.Proofs.Ytlhlaadnifkdhaa.Nmd Go.Proofs.Ytlhlaadnifkdhaa.Pure
set_option linter.unusedVariables false
set_option linter.unusedSimpArgs false

def top64 : Int := 9223372036854775807
def VFin (V : List PV) : Prop := ∀ v ∈ V, v.2 ≠ [] ∧ ∀ y ∈ v.2, y.f0 ≤ top64
theorem push_ne {xs : List SM} {x : SM} (h : xs ≠ []) (hf : ∀ y ∈ xs, y.f0 ≤ top64) (hx : x.f0 ≤ top64) : pushL xs x ≠ [] ∧ ∀ y ∈ pushL xs x, y.f0 ≤ top64 := by
  unfold pushL
  split
  · refine ⟨by simp, fun y hy => ?_⟩
    rcases List.mem_append.1 hy with hy | hy
    · exact hf y hy
    · rw [List.mem_singleton.1 hy]
      exact hx
  · exact ⟨h, hf⟩
theorem VFin.add {V : List PV} (hV : VMay V) (h : VFin V) (ls : List LB) {x : SM} (hx : x.f0 ≤ top64) : VFin (addV V ls x).2 := by
  by_cases h0 : (addV V ls x).1 = 0
  · have hm := add_may h0
    cases hf : findF keyP V (keyT ls) with
    | some v =>
      rw [add_some hm hf]
      intro u hu
      obtain ⟨u', hu', rfl⟩ := List.mem_map.1 hu
      obtain ⟨a, b⟩ := h u' hu'
      show (if keyP u' = keyT ls then ((u'.1, pushL u'.2 x) : PV) else u').2 ≠ [] ∧ ∀ y ∈ (if keyP u' = keyT ls then ((u'.1, pushL u'.2 x) : PV) else u').2, y.f0 ≤ top64
      split
      · exact push_ne a b hx
      · exact ⟨a, b⟩
    | none =>
      obtain ⟨h1, h2, h3⟩ := add_new0 hm hf h0
      rw [h3]
      intro u hu
      rcases List.mem_cons.1 ((ins_perm _ _).mem_iff.1 hu) with rfl | hu
      · refine ⟨by simp, fun y hy => ?_⟩
        rw [List.mem_singleton.1 hy]
        exact hx
      · exact h u (cut_mem.1 hu).1
  · rw [add_err hV.1 h0]
    exact h
theorem VFin.exp {V : List PV} (h : VFin V) (a : Int) : VFin (expV V a) := by
  intro u hu
  obtain ⟨h1, h2⟩ := List.mem_filter.1 hu
  obtain ⟨u', hu', rfl⟩ := List.mem_map.1 h1
  refine ⟨by simpa using h2, fun y hy => ?_⟩
  have hy' : y ∈ expL u'.2 a := hy
  unfold expL at hy'
  exact (h u' hu').2 y ((List.dropWhile_suffix _).subset hy')
theorem fin_run {l : List AT} (hl : ∀ a ∈ l, a.f2.f0 ≤ top64) : VFin (runV l) := by
  have key : ∀ (l : List AT), (∀ a ∈ l, a.f2.f0 ≤ top64) → VFin (runV l) := fun l => by
    refine list_snoc (P := fun l => (∀ a ∈ l, a.f2.f0 ≤ top64) → VFin (runV l)) (fun _ v hv => absurd hv List.not_mem_nil) (fun l a ih hl => ?_) l
    have h1 := ih fun b hb => hl b (List.mem_append_left _ hb)
    have ha := hl a (List.mem_append_right _ (List.mem_singleton.2 rfl))
    rw [run_snoc]
    unfold stepV
    split
    · exact h1.exp _
    · exact h1.add (may_run l) _ ha
  exact key l hl
theorem all_fin {V : List PV} (h : VFin V) : allV V = V := by
  rw [all_filter, List.filter_eq_self]
  intro v hv
  have := (h v hv).1
  cases q : v.2 with
  | nil => exact absurd q this
  | cons _ _ => rfl
theorem exp_top {xs : List SM} (h : ∀ y ∈ xs, y.f0 ≤ top64) : expL xs top64 = [] := by
  unfold expL
  induction xs with
  | nil => rfl
  | cons x xs ih =>
    rw [List.dropWhile_cons, if_pos (by simpa using h x (List.mem_cons_self ..))]
    exact ih fun y hy => h y (List.mem_cons_of_mem _ hy)
def sumV (V : List PV) : Nat := (V.map fun v => v.2.length).sum
theorem exp_all {V : List PV} (h : VFin V) : expV V top64 = [] ∧ expVN V top64 = sumV V := by
  constructor
  · unfold expV
    rw [List.filter_eq_nil_iff]
    intro u hu
    obtain ⟨u', hu', rfl⟩ := List.mem_map.1 hu
    rw [show ((u'.1, expL u'.2 top64) : PV).2 = [] from exp_top (h u' hu').2]
    simp
  · unfold expVN sumV
    congr 1
    refine List.map_congr_left fun u hu => ?_
    rw [exp_top (h u hu).2]
    rfl
theorem sum_take (V : List PV) {k : Nat} (h : k < V.length) : sumV (V.take (k + 1)) = sumV (V.take k) + (V[k]).2.length := by
  unfold sumV
  rw [take_snocP V k h, List.map_append, List.sum_append]
  simp
theorem sum_le {V : List PV} (h : ∀ v ∈ V, v.2.length ≤ 32) : sumV V ≤ 32 * V.length := by
  unfold sumV
  induction V with
  | nil => simp
  | cons v V ih =>
    have h1 := h v (List.mem_cons_self ..)
    have h2 := ih fun u hu => h u (List.mem_cons_of_mem _ hu)
    rw [List.map_cons, List.sum_cons, List.length_cons]
    omega
theorem filter_one {V : List PV} (hV : Rise keyP V) {k : Nat} (h : k < V.length) : V.filter (isQ V[k].1) = [V[k]] := by
  have e := List.take_append_drop k V
  rw [List.drop_eq_getElem_cons h] at e
  have hu := rise_unlike hV
  rw [← e] at hu
  obtain ⟨-, h2, h3⟩ := List.pairwise_append.1 hu
  obtain ⟨h4, -⟩ := List.pairwise_cons.1 h2
  have n1 : (V.take k).filter (isQ V[k].1) = [] := by
    rw [List.filter_eq_nil_iff]
    intro u hu q
    refine h3 u hu _ (List.mem_cons_self ..) ?_
    unfold keyP
    rw [isQ_iff.1 q]
  have n2 : (V.drop (k + 1)).filter (isQ V[k].1) = [] := by
    rw [List.filter_eq_nil_iff]
    intro u hu q
    refine h4 u hu ?_
    unfold keyP
    rw [isQ_iff.1 q]
  have key : ∀ q, isQ q V[k] = true → (V.take k).filter (isQ q) = [] → (V.drop (k + 1)).filter (isQ q) = [] → V.filter (isQ q) = [V[k]] := fun q h0 h1 h2 => by
    conv => lhs; rw [← e]
    rw [List.filter_append, h1, List.filter_cons_of_pos h0, h2]
    rfl
  exact key _ (isQ_iff.2 rfl) n1 n2
/-- One that is alone. -/
theorem alone_one {l : List AT} (hf : VFin (runV l)) {k : Nat} (h : k < (runV l).length) : allV (alone (runV l)[k].1 (accL l)) = [(runV l)[k]] := by
  have hV := may_run l
  rw [(alone_ok (hV.2 _ (List.getElem_mem h)) l).1]
  have hs := filter_one hV.1 h
  rw [hs]
  refine all_fin fun u hu => ?_
  rw [List.mem_singleton.1 hu]
  exact hf _ (List.getElem_mem h)
theorem acc_take (l : List AT) {k : Nat} (h : k < l.length) : accL (l.take (k + 1)) = if (l[k]).f0 = true then accL (l.take k) ++ [l[k]] else if (addV (runV (l.take k)) (l[k]).f1 (l[k]).f2).1 = 0 then accL (l.take k) ++ [l[k]] else accL (l.take k) := by
  unfold accL
  rw [List.take_succ_eq_append_getElem h, acc_snoc]
  unfold accStep
  rw [acc_run]
  split
  · rfl
  · split <;> rfl
theorem acc_len (l : List AT) : (accL l).length ≤ l.length := by
  refine list_snoc (P := fun l => (accL l).length ≤ l.length) (Nat.le_refl _) (fun l a ih => ?_) l
  unfold accL at ih ⊢
  rw [acc_snoc, List.length_append]
  show _ ≤ l.length + 1
  unfold accStep
  split
  · rw [List.length_append]
    show (accR l).2.length + 1 ≤ _
    omega
  · split
    · rw [List.length_append]
      show (accR l).2.length + 1 ≤ _
      omega
    · show (accR l).2.length ≤ _
      omega
/-! Rows of acts, as places -/
abbrev kI : Kd Int := Kd.scalar (Value.int .i64) (fun _ => rfl)
abbrev AH := Bool × Hd × Int × Int
abbrev kAH : Kd AH := Kd.pair (Kd.scalar Value.bool (fun _ => rfl)) (Kd.pair kH (Kd.pair kI kI))
abbrev cellsA (x : AH) : List Value := [.bool x.1, vH x.2.1, .int .i64 x.2.2.1, .int .i64 x.2.2.2]
theorem kAH_open {w : World} {x : AH} {cs : List Value} (h : kAH.K w x cs) : cs = cellsA x := by
  obtain ⟨_, _, rfl, rfl, ⟨_, _, rfl, rfl, ⟨_, _, rfl, rfl, rfl⟩⟩⟩ := h
  rfl
theorem kAH_mk (w : World) (x : AH) : kAH.K w x (cellsA x) := ⟨[.bool x.1], [vH x.2.1, .int .i64 x.2.2.1, .int .i64 x.2.2.2], rfl, rfl, ⟨[vH x.2.1], [.int .i64 x.2.2.1, .int .i64 x.2.2.2], rfl, rfl, ⟨[.int .i64 x.2.2.1], [.int .i64 x.2.2.2], rfl, rfl, rfl⟩⟩⟩
theorem kAH_KM {W : World} {base : Nat} {ok : Nat → Prop} (x : AH) (cs : List Value) (h : kAH.K W x cs) : kAH.M W base ok x cs := by
  obtain ⟨c0, _, rfl, h0, ⟨c1, _, rfl, h1, ⟨c2, c3, rfl, h2, h3⟩⟩⟩ := h
  exact ⟨c0, _, rfl, h0, ⟨c1, _, rfl, h1, ⟨c2, c3, rfl, h2, h3⟩⟩⟩
theorem infA : (Try.prog.info? 46).map (fun i => (i.zero, i.size, i.bytes)) = some (some (.agg #[.bool false, .slice none 0 0, .int .i64 0, .int .i64 0]), 4, 48) := by kernel_rfl
abbrev rowA (v : Value) (hs : List AH) : Th := rowT kAH 46 v hs
theorem lit_A (w : World) (x : AH) : Kd.C kAH (w.alloc (.cells #[.bool x.1, vH x.2.1, .int .i64 x.2.2.1, .int .i64 x.2.2.2] 46)) (some ⟨w.heap.size, 0, none⟩) [x].length [x] := by
  have hr : Kd.R kAH 46 (w.alloc (.cells #[.bool x.1, vH x.2.1, .int .i64 x.2.2.1, .int .i64 x.2.2.2] 46)) 0 (fun _ => True) (.slice (some ⟨w.heap.size, 0, none⟩) [x].length [x].length) [x] :=
    ⟨fun _ _ => trivial, OwnRow.lit (ps := [x]) w 0 (inner := cellsA x) (show Reps _ 4 ([] ++ [x]) ([] ++ cellsA x) from Reps.snoc (Reps.none _ _) (kAH_KM x _ (kAH_mk _ x)) rfl) (Nat.zero_le _) (show 1 ≤ 9223372036854775807 by omega)⟩
  exact (Kd.R_reads' hr).2.2
/-- The places tell these acts; the labels lie where they lay in W. -/
def AccOk (W : World) (acc : List AT) (hs : List AH) : Prop := hs.length = acc.length ∧ ∀ k (h : k < acc.length), ∃ A c, hs[k]? = some ((acc[k]).f0, (A, (acc[k]).f1.length, c), (acc[k]).f2.f0, (acc[k]).f2.f1) ∧ (acc[k]).f1.length ≤ c ∧ Kd.C kL W A (acc[k]).f1.length (acc[k]).f1
theorem acc_ok0 (W : World) : AccOk W [] [] := ⟨rfl, fun k h => absurd h (Nat.not_lt_zero _)⟩
theorem AccOk.push {W : World} {acc : List AT} {hs : List AH} (h : AccOk W acc hs) {a : AT} {A : Option Addr} {c : Nat} (hc : a.f1.length ≤ c) (hC : Kd.C kL W A a.f1.length a.f1) : AccOk W (acc ++ [a]) (hs ++ [(a.f0, (A, a.f1.length, c), a.f2.f0, a.f2.f1)]) := by
  obtain ⟨h1, h2⟩ := h
  refine ⟨by rw [List.length_append, List.length_append, h1]; rfl, fun k hk => ?_⟩
  by_cases hka : k < acc.length
  · obtain ⟨A', c', e, e2, e3⟩ := h2 k hka
    rw [List.getElem_append_left hka, List.getElem?_append_left (by omega)]
    exact ⟨A', c', e, e2, e3⟩
  · have : k = acc.length := by
      rw [List.length_append] at hk
      simp at hk
      omega
    subst this
    rw [List.getElem_append_right (Nat.le_refl _), List.getElem?_append_right (by omega), h1]
    simp only [Nat.sub_self, List.getElem_cons_zero]
    exact ⟨A, c, rfl, hc, hC⟩
theorem at_A {w : World} {A : Option Addr} {n : Nat} {l : List AH} (h : Kd.C kAH w A n l) (k : Nat) {x : AH} (hx : l[k]? = some x) : ∃ ad, A = some ad ∧ w.cell? (ad.add (k * 4)) = some (.bool x.1) ∧ w.cell? ⟨(ad.add (k * 4)).block, (ad.add (k * 4)).off + 1, none⟩ = some (.slice x.2.1.1 x.2.1.2.1 x.2.1.2.2) ∧ w.cell? ⟨(ad.add (k * 4)).block, (ad.add (k * 4)).off + 2, none⟩ = some (.int .i64 x.2.2.1) ∧ w.cell? ⟨(ad.add (k * 4)).block, (ad.add (k * 4)).off + 3, none⟩ = some (.int .i64 x.2.2.2) := by
  have hk : k < l.length := by
    rcases Nat.lt_or_ge k l.length with q | q
    · exact q
    · rw [List.getElem?_eq_none q] at hx
      cases hx
  have hn := Kd.C_len h
  obtain ⟨ad, c, e, _, hK, hc0⟩ := Kd.C_get h x (k : Int) (by omega) (by omega)
  rw [Int.toNat_natCast, List.getD_eq_getElem?_getD, hx] at hK
  rw [Int.toNat_natCast] at hc0
  have hc : ∀ j u, c[j]? = some u → w.cell? (ad.add (k * 4 + j)) = some u := hc0
  have hK' := kAH_open hK
  subst hK'
  exact ⟨ad, e, hc 0 _ rfl, by rw [add_field _ _ 1 (by omega)]; exact hc 1 _ rfl, by rw [add_field _ _ 2 (by omega)]; exact hc 2 _ rfl, by rw [add_field _ _ 3 (by omega)]; exact hc 3 _ rfl⟩
end Go.Proofs.Ytlhlaadnifkdhaa.Sr
