/- What workers' tasks are, in plain words. No law is proved here. -/
import Derived.Test.YtpnoghnhlddjeaaWorkT
import Derived.Test.YtpnoghnhlddjeaaQ7
import Derived.Test.YtpnoghnhlddjeaaOpens
import Derived.DataShut
namespace Go.Proofs.Ytpnoghnhlddjeaa.Wk
open Go.RowKit Go.Proofs.YtpnoghnhlddjeaaW.PrintWords Go.Proofs.YtpnoghnhlddjeaaW.PrintLast Go.Proofs.YtpnoghnhlddjeaaW.PrintMore Go.Proofs.Ytpnoghnhlddjeaa.Q Go.Proofs.Ytpnoghnhlddjeaa.Own Go.Proofs.Ytpnoghnhlddjeaa.Hp
set_option linter.unusedVariables false
set_option linter.unusedSimpArgs false

theorem good_T {x : S31} (h : good31 x) : GoodT x := by
  have := (Lit.wf_int_iff _ _).1 h.1
  exact this
theorem wrap_nat {i : Nat} (h : i < 9223372036854775807) : wrap64 ((i : Int) + 1) = ((i + 1 : Nat) : Int) := by unfold wrap64; omega
theorem drop_nat (l : List S31) {i : Nat} (h : i < l.length) : l.drop i = rd_T31 l (i : Int) :: l.drop (i + 1) := by
  rw [rd_nat l h]
  exact List.drop_eq_getElem_cons h
theorem push_mem_or {s : List S31} {x y : S31} (h : y ∈ pushS s x) : y = x ∨ y ∈ s := by
  unfold pushS at h
  split at h
  · exact .inr h
  · exact List.mem_cons.1 ((with_perm s x).mem_iff.1 h)
def Unlike (l : List S31) : Prop := l.Pairwise fun a b => a.f0 ≠ b.f0
theorem fold_perm : ∀ (l s : List S31), Unlike l → (∀ x ∈ l, hasL s x.f0 = false) → (l.foldl pushS s).Perm (l ++ s)
  | [], s, _, _ => List.Perm.refl _
  | x :: l, s, hu, hn => by
    obtain ⟨h1, h2⟩ := List.pairwise_cons.1 hu
    have hp : pushS s x = withL s x := by
      unfold pushS
      rw [if_neg (by rw [hn x (List.mem_cons_self ..)]; decide)]
    rw [List.foldl_cons, hp]
    refine (fold_perm l (withL s x) h2 fun y hy => hasL_false.2 fun z hz => ?_).trans ?_
    · rcases List.mem_cons.1 ((with_perm s x).mem_iff.1 hz) with rfl | hz
      · exact h1 y hy
      · exact hasL_false.1 (hn y (List.mem_cons_of_mem _ hy)) z hz
    · refine ((List.Perm.refl l).append (with_perm s x)).trans ?_
      exact List.perm_middle
theorem unlike_perm {l m : List S31} (hp : l.Perm m) (hu : Unlike l) : Unlike m := (hp.pairwise_iff (R := fun a b : S31 => a.f0 ≠ b.f0) (fun h => Ne.symm h)).1 hu
theorem sort_good {l : List S31} (hu : Unlike l) (hg : ∀ x ∈ l, GoodT x) (hm : l.length ≤ 1000000) : GoodS (sortL l) ∧ (sortL l).Perm l := by
  have h1 : (l.foldl pushS []).Perm l := by
    have := fold_perm l [] hu fun _ _ => rfl
    rwa [List.append_nil] at this
  have h2 : GoodS (l.foldl pushS []) := fold_good l [] good_nil hg (by simpa using hm)
  rw [sort_eq h1.symm h2]
  exact ⟨h2, h1⟩
/-- Workers' tasks as they may be: each in its home's heap. -/
structure HomeS (hs : List (List S31)) : Prop where
  pos : 0 < hs.length
  few : hs.length ≤ 4
  home : ∀ j, ∀ x ∈ hs.getD j [], homeOf x.f0 hs.length = j
  good : ∀ j, GoodS (hs.getD j [])
theorem getD_set {α : Type} (hs : List (List α)) (i j : Nat) (s : List α) : (hs.set i s).getD j [] = if i = j ∧ j < hs.length then s else hs.getD j [] := by
  rw [List.getD_eq_getElem?_getD, List.getElem?_set, List.getD_eq_getElem?_getD]
  by_cases h : i = j
  · subst h
    by_cases h2 : i < hs.length
    · rw [if_pos rfl, if_pos h2, if_pos ⟨rfl, h2⟩]
      rfl
    · rw [if_pos rfl, if_neg h2, if_neg (fun q => h2 q.2), List.getElem?_eq_none (by omega)]
  · rw [if_neg h, if_neg (fun q => h q.1)]
theorem home_start {n : Nat} (h1 : 1 ≤ n) (h4 : n ≤ 4) : HomeS (List.replicate n ([] : List S31)) := by
  have e : ∀ j, (List.replicate n ([] : List S31)).getD j [] = [] := fun j => by
    rw [List.getD_eq_getElem?_getD, List.getElem?_replicate]
    split <;> rfl
  exact ⟨by rw [List.length_replicate]; omega, by rw [List.length_replicate]; omega, fun j x hx => by rw [e] at hx; exact absurd hx List.not_mem_nil, fun j => by rw [e]; exact good_nil⟩
theorem home_set {hs : List (List S31)} (h : HomeS hs) {i : Nat} {s : List S31} (hx : ∀ x ∈ s, homeOf x.f0 hs.length = i) (hg : GoodS s) : HomeS (hs.set i s) := by
  refine ⟨by rw [List.length_set]; exact h.pos, by rw [List.length_set]; exact h.few, fun j x hj => ?_, fun j => ?_⟩
  · rw [List.length_set]
    rw [getD_set] at hj
    split at hj
    · rename_i q
      rw [hx x hj, q.1]
    · exact h.home j x hj
  · rw [getD_set]
    split
    · exact hg
    · exact h.good j
theorem home_put {hs : List (List S31)} (h : HomeS hs) {x : S31} (hx : GoodT x) (hm : hs.flatten.length < 1000000) : HomeS (putS hs x) := by
  unfold putS
  split
  · exact h
  · have hl : (hs.getD (homeOf x.f0 hs.length) []).length ≤ hs.flatten.length := by
      rw [List.getD_eq_getElem?_getD]
      rcases Nat.lt_or_ge (homeOf x.f0 hs.length) hs.length with q | q
      · rw [List.getElem?_eq_getElem q]
        exact (List.sublist_flatten_of_mem (List.getElem_mem q)).length_le
      · rw [List.getElem?_eq_none q]
        exact Nat.zero_le _
    refine home_set h (fun y hy => ?_) (good_push (h.good _) hx (by omega))
    rcases push_mem_or hy with rfl | hy
    · rfl
    · exact h.home _ y hy
theorem home_sub {hs : List (List S31)} (h : HomeS hs) {i : Nat} {s : List S31} (hs' : s.Sublist (hs.getD i [])) : HomeS (hs.set i s) :=
  home_set h (fun x hx => h.home i x (hs'.subset hx)) (good_sub (h.good i) hs')
theorem take_sub (s : List S31) (a : Int) : (takeS s a).Sublist s := by
  unfold takeS
  split
  · exact List.tail_sublist s
  · exact List.Sublist.refl s
theorem home_turn {hs : List (List S31)} (h : HomeS hs) (i a : Int) : HomeS (turnR hs i a).hs := by
  unfold turnR
  repeat' split
  · exact h
  · exact home_sub h (take_sub _ _)
  · exact home_sub h (take_sub _ _)
  · exact h
theorem home_drop {hs : List (List S31)} (h : HomeS hs) (j : Nat) (r : Int) : HomeS (hs.set j (withoutL (hs.getD j []) r)) := home_sub h List.filter_sublist
/-- One heap's tasks, and the others'. -/
theorem flat_pick {α : Type} : ∀ (hs : List (List α)) (i : Nat), i < hs.length → ∃ R, hs.flatten.Perm (hs.getD i [] ++ R) ∧ ∀ s, (hs.set i s).flatten.Perm (s ++ R)
  | [], i, h => absurd h (Nat.not_lt_zero _)
  | t :: hs, 0, _ => ⟨hs.flatten, List.Perm.refl _, fun s => List.Perm.refl _⟩
  | t :: hs, i + 1, h => by
    obtain ⟨R, r1, r2⟩ := flat_pick hs i (by simpa using h)
    refine ⟨t ++ R, ?_, fun s => ?_⟩
    · rw [List.flatten_cons, List.getD_cons_succ]
      refine (r1.append_left t).trans ?_
      rw [← List.append_assoc, ← List.append_assoc]
      exact List.perm_append_comm.append_right R
    · rw [List.set_cons_succ, List.flatten_cons]
      refine ((r2 s).append_left t).trans ?_
      rw [← List.append_assoc, ← List.append_assoc]
      exact List.perm_append_comm.append_right R
theorem flat_len {α : Type} (hs : List (List α)) (i : Nat) (h : i < hs.length) (s : List α) : (hs.set i s).flatten.length + (hs.getD i []).length = hs.flatten.length + s.length := by
  obtain ⟨R, r1, r2⟩ := flat_pick hs i h
  rw [(r2 s).length_eq, r1.length_eq, List.length_append, List.length_append]
  omega
theorem put_len (hs : List (List S31)) (x : S31) : (putS hs x).flatten.length ≤ hs.flatten.length + 1 := by
  unfold putS
  split
  · omega
  · rcases Nat.lt_or_ge (homeOf x.f0 hs.length) hs.length with q | q
    · have := flat_len hs _ q (pushS (hs.getD (homeOf x.f0 hs.length) []) x)
      have := push_length (hs.getD (homeOf x.f0 hs.length) []) x
      omega
    · rw [List.set_eq_of_length_le q]
      omega
theorem take_len (s : List S31) (a : Int) (h : takeO s a = true) : (takeS s a).length + 1 = s.length := by
  unfold takeS
  rw [if_pos h]
  cases s with
  | nil => cases h
  | cons x t => rfl
theorem sub_len (hs : List (List S31)) (i : Nat) {s : List S31} (hs' : s.Sublist (hs.getD i [])) : (hs.set i s).flatten.length ≤ hs.flatten.length := by
  rcases Nat.lt_or_ge i hs.length with q | q
  · have := flat_len hs i q s
    have := hs'.length_le
    omega
  · rw [List.set_eq_of_length_le q]
    omega
theorem turn_len (hs : List (List S31)) (i a : Int) : (turnR hs i a).hs.flatten.length ≤ hs.flatten.length := by
  unfold turnR
  repeat' split
  · exact Nat.le_refl _
  · exact sub_len hs _ (take_sub _ _)
  · exact sub_len hs _ (take_sub _ _)
  · exact Nat.le_refl _
/-- All tasks are unlike. -/
theorem home_unlike {hs : List (List S31)} (h : HomeS hs) : Unlike hs.flatten := by
  unfold Unlike
  rw [List.pairwise_flatten]
  have e : ∀ (i : Nat) (hi : i < hs.length), hs[i] = hs.getD i [] := fun i hi => by rw [List.getD_eq_getElem?_getD, List.getElem?_eq_getElem hi]; rfl
  refine ⟨fun l hl => ?_, ?_⟩
  · obtain ⟨i, hi, rfl⟩ := List.getElem_of_mem hl
    rw [e i hi]
    exact (h.good i).once
  · rw [List.pairwise_iff_getElem]
    intro i j hi hj hij x hx y hy q
    rw [e i hi] at hx
    rw [e j hj] at hy
    have h1 := h.home i x hx
    have h2 := h.home j y hy
    rw [q, h2] at h1
    omega
theorem home_goods {hs : List (List S31)} (h : HomeS hs) : ∀ x ∈ hs.flatten, GoodT x := by
  intro x hx
  obtain ⟨l, hl, hxl⟩ := List.mem_flatten.1 hx
  obtain ⟨i, hi, rfl⟩ := List.getElem_of_mem hl
  have := (h.good i).good x
  rw [List.getD_eq_getElem?_getD, List.getElem?_eq_getElem hi] at this
  exact this hxl
theorem all_good {hs : List (List S31)} (h : HomeS hs) (hm : hs.flatten.length ≤ 1000000) : GoodS (sortL hs.flatten) ∧ (sortL hs.flatten).Perm hs.flatten := sort_good (home_unlike h) (home_goods h) hm
theorem filt {α : Type} (g : α → Nat) : ∀ (hs : List (List α)) (off i : Nat), (∀ j, ∀ x ∈ hs.getD j [], g x = j + off) → hs.flatten.filter (fun x => g x == i + off) = hs.getD i []
  | [], off, i, _ => rfl
  | t :: hs, off, i, h => by
    have h0 : ∀ x ∈ t, g x = off := fun x hx => by have := h 0 x hx; omega
    have h1 : ∀ j, ∀ x ∈ hs.getD j [], g x = j + (off + 1) := fun j x hx => by have := h (j + 1) x (by rw [List.getD_cons_succ]; exact hx); omega
    rw [List.flatten_cons, List.filter_append]
    cases i with
    | zero =>
      have e : hs.flatten.filter (fun x => g x == 0 + off) = [] := by
        rw [List.filter_eq_nil_iff]
        intro x hx
        obtain ⟨l, hl, hxl⟩ := List.mem_flatten.1 hx
        obtain ⟨j, hj, rfl⟩ := List.getElem_of_mem hl
        have := h1 j x (by rw [List.getD_eq_getElem?_getD, List.getElem?_eq_getElem hj]; exact hxl)
        simp only [beq_iff_eq]
        omega
      rw [e, List.append_nil, List.getD_cons_zero, List.filter_eq_self]
      intro x hx
      have := h0 x hx
      simp only [beq_iff_eq]
      omega
    | succ i =>
      have e : t.filter (fun x => g x == i + 1 + off) = [] := by
        rw [List.filter_eq_nil_iff]
        intro x hx
        have := h0 x hx
        simp only [beq_iff_eq]
        omega
      rw [e, List.nil_append, List.getD_cons_succ, ← filt g hs (off + 1) i h1]
      congr 1
      funext x
      rw [show i + 1 + off = i + (off + 1) by omega]
theorem own_filter {hs : List (List S31)} (h : HomeS hs) (hm : hs.flatten.length ≤ 1000000) (i : Nat) : (sortL hs.flatten).filter (fun x => homeOf x.f0 hs.length == i) = hs.getD i [] := by
  obtain ⟨h1, h2⟩ := all_good h hm
  refine rise_unique (h1.rise.sublist List.filter_sublist) (h.good i).rise ?_
  rw [← filt (fun x : S31 => homeOf x.f0 hs.length) hs 0 i (fun j x hx => by rw [h.home j x hx]; rfl)]
  exact h2.filter _
/-- The first of a list that meets a test, as the law's 'earliest' tells it. -/
def headP (s : List S31) : Value := pairV (s.headD z31) (!s.isEmpty)
theorem earliest_l (l : List S31) (n i : Nat) (hn : 0 < n) (hg : ∀ x ∈ l, GoodT x) (hm : l.length ≤ 1000000) : ∀ k j : Nat, l.length - j < k →
    tocsinlaw26_earliest.l0 k l (i : Int) (n : Int) (j : Int) = some ((((l.drop j).filter fun x => homeOf x.f0 n == i).headD z31).f0, (((l.drop j).filter fun x => homeOf x.f0 n == i).headD z31).f1, !((l.drop j).filter fun x => homeOf x.f0 n == i).isEmpty)
  | 0, j, h => absurd h (Nat.not_lt_zero _)
  | k + 1, j, h => by
    unfold tocsinlaw26_earliest.l0
    by_cases hj : j < l.length
    · have hx : GoodT (rd_T31 l (j : Int)) := hg _ (by rw [rd_nat l hj]; exact List.getElem_mem hj)
      rw [if_pos (by omega), if_pos (by omega), if_neg (by omega), drop_nat l hj, wrap_nat (by omega), earliest_l l n i hn hg hm k (j + 1) (by omega), List.filter_cons]
      generalize rd_T31 l (j : Int) = x at hx ⊢
      have e : Int.tmod (wrap64 x.f0) (n : Int) = ((homeOf x.f0 n : Nat) : Int) := by
        obtain ⟨a, b⟩ := hx
        rw [show wrap64 x.f0 = x.f0 by unfold wrap64; omega]
        unfold homeOf
        rw [Int.tmod_eq_emod_of_nonneg a, Int.natCast_emod, Int.toNat_of_nonneg a]
      rw [e]
      by_cases q : homeOf x.f0 n = i
      · rw [if_pos (by omega), if_pos (by simpa using q)]
        rfl
      · rw [if_neg (by omega), if_neg (by simpa using q)]
    · rw [if_neg (by omega), List.drop_eq_nil_of_le (by omega)]
      rfl
theorem earliest_calls {w : World} {A : Option Addr} {c : Nat} {hs : List (List S31)} (h : HomeS hs) (hm : hs.flatten.length ≤ 1000000) (hC : Kd.C k31 w A (sortL hs.flatten).length (sortL hs.flatten)) (hc : (sortL hs.flatten).length ≤ c) (i : Nat) :
    Calls Try.prog 11 #[.slice A (sortL hs.flatten).length c, .int .i64 (i : Int), .int .i64 (hs.length : Int)] w fun e w' => e = .returned (headP (hs.getD i [])) ∧ Below w.heap.size w w' := by
  obtain ⟨h1, h2⟩ := all_good h hm
  have he := earliest_l (sortL hs.flatten) hs.length i h.pos h1.good (by rw [h2.length_eq]; exact hm) ((sortL hs.flatten).length + 1) 0 (by omega)
  rw [List.drop_zero, own_filter h hm i] at he
  exact tocsinlaw26_earliest.calls ((sortL hs.flatten).length + 1) A c _ _ _ _ _ _ w hC hc he
theorem wrap_n (a : Int) : ∃ n : Nat, 1 ≤ n ∧ n ≤ 4 ∧ wrap64 (1 + wrap64 ((IntKind.u64.wrap a).tmod 4)) = (n : Int) := by
  obtain ⟨h1, h2⟩ := wrap_within .u64 a
  have h1' : 0 ≤ IntKind.u64.wrap a := h1
  rw [Int.tmod_eq_emod_of_nonneg h1']
  generalize IntKind.u64.wrap a = b at *
  refine ⟨(1 + b % 4).toNat, by omega, by omega, ?_⟩
  unfold wrap64
  omega
theorem wrap_j (a : Int) (n : Nat) (h1 : 1 ≤ n) (h4 : n ≤ 4) : ∃ j : Nat, j < n ∧ wrap64 ((IntKind.u64.wrap a).tmod (IntKind.u64.wrap (n : Int))) = (j : Int) := by
  obtain ⟨g1, g2⟩ := wrap_within .u64 a
  have g1' : 0 ≤ IntKind.u64.wrap a := g1
  have e : IntKind.u64.wrap (n : Int) = (n : Int) := by
    rcases (show n = 1 ∨ n = 2 ∨ n = 3 ∨ n = 4 by omega) with rfl | rfl | rfl | rfl <;> rfl
  rw [e, Int.tmod_eq_emod_of_nonneg g1']
  generalize IntKind.u64.wrap a = b at *
  have m0 := Int.emod_nonneg b (show (n : Int) ≠ 0 by omega)
  have m1 := Int.emod_lt_of_pos b (show (0 : Int) < n by omega)
  refine ⟨(b % n).toNat, by omega, ?_⟩
  unfold wrap64
  omega
theorem wrap_z (a : Int) : (IntKind.u64.wrap (wrap64 (1 + wrap64 ((IntKind.u64.wrap a).tmod 4))) == 0) = false := by
  obtain ⟨n, h1, h4, e⟩ := wrap_n a
  rw [e]
  rcases (show n = 1 ∨ n = 2 ∨ n = 3 ∨ n = 4 by omega) with rfl | rfl | rfl | rfl <;> rfl
theorem take_true {s : List S31} {a : Int} (h : takeO s a = true) : ∃ x t, s = x :: t ∧ x.f1 ≤ a := by
  cases s with
  | nil => cases h
  | cons x t => exact ⟨x, t, rfl, of_decide_eq_true h⟩
theorem take_false {s : List S31} {a : Int} (h : takeO s a = false) : s = [] ∨ ∃ x t, s = x :: t ∧ ¬ x.f1 ≤ a := by
  cases s with
  | nil => exact .inl rfl
  | cons x t => exact .inr ⟨x, t, rfl, of_decide_eq_false h⟩
theorem takes_cons {x : S31} {t : List S31} {a : Int} (h : x.f1 ≤ a) : takeX (x :: t) a = x ∧ takeS (x :: t) a = t := by
  have e : takeO (x :: t) a = true := decide_eq_true h
  unfold takeX takeS
  rw [e]
  exact ⟨rfl, rfl⟩
theorem turnR_own {hs : List (List S31)} {j : Nat} {a : Int} {x : S31} {t : List S31} (hj : j < hs.length) (hs' : hs.getD j [] = x :: t) (hx : x.f1 ≤ a) : turnR hs (j : Int) a = ⟨x, false, true, hs.set j t⟩ := by
  unfold turnR
  have e : turnOwn hs j a = true := by unfold turnOwn; rw [hs']; exact decide_eq_true hx
  rw [if_neg (by omega), Int.toNat_natCast, if_pos e, hs', (takes_cons hx).1, (takes_cons hx).2]
theorem turnR_other {hs : List (List S31)} {j m : Nat} {a : Int} {y : S31} {u : List S31} (hj : j < hs.length) (ho : turnOwn hs j a = false) (hm : mostF hs hs.length = m) (hne : m ≠ j) (hs' : hs.getD m [] = y :: u) (hy : y.f1 ≤ a) : turnR hs (j : Int) a = ⟨y, true, true, hs.set m u⟩ := by
  unfold turnR
  have e : turnOther hs j a = true := by
    unfold turnOther
    rw [hm, decide_eq_true hne, hs']
    exact decide_eq_true hy
  rw [if_neg (by omega), Int.toNat_natCast, if_neg (by rw [ho]; decide), if_pos e, hm, hs', (takes_cons hy).1, (takes_cons hy).2]
theorem turnR_none {hs : List (List S31)} {j : Nat} {a : Int} (hj : j < hs.length) (ho : turnOwn hs j a = false) (hn : turnOther hs j a = false) : turnR hs (j : Int) a = ⟨z31, false, false, hs⟩ := by
  unfold turnR
  rw [if_neg (by omega), Int.toNat_natCast, if_neg (by rw [ho]; decide), if_neg (by rw [hn]; decide)]
theorem tail_box {B : Nat} {w : World} {T : Th} {L Ts : List Th} (h : Has B w (T :: (L ++ Ts))) : Has B w (L ++ (T :: Ts)) := h.perm List.perm_middle.symm
theorem head_box {B : Nat} {w : World} {T : Th} {L Ts : List Th} (h : Has B w (L ++ (T :: Ts))) : Has B w (T :: (L ++ Ts)) := h.perm List.perm_middle
theorem second {B : Nat} {w : World} {T U : Th} {L Ts : List Th} (h : Has B w (L ++ (T :: U :: Ts))) : Has B w (L ++ (U :: T :: Ts)) := h.perm ((List.Perm.swap _ _ _).append_left L)
theorem mem_flat {hs : List (List S31)} {s : List S31} (h : s ∈ hs) : s.length ≤ hs.flatten.length := (List.sublist_flatten_of_mem h).length_le
theorem flat_one {n : Nat} : List.flatten (List.replicate n ([] : List S31)) = [] := by simp
end Go.Proofs.Ytpnoghnhlddjeaa.Wk
