/- What workers' tasks are, in plain words. No law is proved here. -/
import Derived.Test.YtpnoghnhlddjeaaWorkT
import Derived.Test.YtpnoghnhlddjeaaQ7
import Derived.Test.YtpnoghnhlddjeaaOpens
import Derived.DataShut
import Derived.Test.YtpnoghnhlddjeaaQ9
import Derived.Test.YtpnoghnhlddjeaaQ10
namespace Go.Proofs.Ytpnoghnhlddjeaa.Wk
open Go.RowKit Go.Proofs.YtpnoghnhlddjeaaW.PrintWords Go.Proofs.YtpnoghnhlddjeaaW.PrintLast Go.Proofs.YtpnoghnhlddjeaaW.PrintMore Go.Proofs.Ytpnoghnhlddjeaa.Q Go.Proofs.Ytpnoghnhlddjeaa.Own Go.Proofs.Ytpnoghnhlddjeaa.Hp
set_option linter.unusedVariables false
set_option linter.unusedSimpArgs false

theorem good_T {x : S31} (h : good31 x) : GoodT x := by
  have := (Lit.wf_int_iff _ _).1 h.1
  exact this
theorem wrap_nat {i : Nat} (h : i < 9223372036854775807) : wrap64 ((i : Int) + 1) = ((i + 1 : Nat) : Int) := by unfold wrap64; omega
theorem drop_nat (l : List S31) {i : Nat} (h : i < l.length) : l.drop i = rd_T31 l (i : Int) :: l.drop (i + 1) := by
  rw [rd_nat l h]
  exact List.drop_eq_getElem_cons h
theorem push_mem_or {s : List S31} {x y : S31} (h : y ∈ pushS s x) : y = x ∨ y ∈ s := by
  unfold pushS at h
  split at h
  · exact .inr h
  · exact List.mem_cons.1 ((with_perm s x).mem_iff.1 h)
def Unlike (l : List S31) : Prop := l.Pairwise fun a b => a.f0 ≠ b.f0
theorem fold_perm : ∀ (l s : List S31), Unlike l → (∀ x ∈ l, hasL s x.f0 = false) → (l.foldl pushS s).Perm (l ++ s)
  | [], s, _, _ => List.Perm.refl _
  | x :: l, s, hu, hn => by
    obtain ⟨h1, h2⟩ := List.pairwise_cons.1 hu
    have hp : pushS s x = withL s x := by
      unfold pushS
      rw [if_neg (by rw [hn x (List.mem_cons_self ..)]; decide)]
    rw [List.foldl_cons, hp]
    refine (fold_perm l (withL s x) h2 fun y hy => hasL_false.2 fun z hz => ?_).trans ?_
    · rcases List.mem_cons.1 ((with_perm s x).mem_iff.1 hz) with rfl | hz
      · exact h1 y hy
      · exact hasL_false.1 (hn y (List.mem_cons_of_mem _ hy)) z hz
    · refine ((List.Perm.refl l).append (with_perm s x)).trans ?_
      exact List.perm_middle
theorem unlike_perm {l m : List S31} (hp : l.Perm m) (hu : Unlike l) : Unlike m := (hp.pairwise_iff (R := fun a b : S31 => a.f0 ≠ b.f0) (fun h => Ne.symm h)).1 hu
theorem sort_good {l : List S31} (hu : Unlike l) (hg : ∀ x ∈ l, GoodT x) (hm : l.length ≤ 1000000) : GoodS (sortL l) ∧ (sortL l).Perm l := by
  have h1 : (l.foldl pushS []).Perm l := by
    have := fold_perm l [] hu fun _ _ => rfl
    rwa [List.append_nil] at this
  have h2 : GoodS (l.foldl pushS []) := fold_good l [] good_nil hg (by simpa using hm)
  rw [sort_eq h1.symm h2]
  exact ⟨h2, h1⟩
/-- Workers' tasks as they may be: each in its home's heap. -/
structure HomeS (hs : List (List S31)) : Prop where
  pos : 0 < hs.length
  few : hs.length ≤ 4
  home : ∀ j, ∀ x ∈ hs.getD j [], homeOf x.f0 hs.length = j
  good : ∀ j, GoodS (hs.getD j [])
theorem getD_set {α : Type} (hs : List (List α)) (i j : Nat) (s : List α) : (hs.set i s).getD j [] = if i = j ∧ j < hs.length then s else hs.getD j [] := by
  rw [List.getD_eq_getElem?_getD, List.getElem?_set, List.getD_eq_getElem?_getD]
  by_cases h : i = j
  · subst h
    by_cases h2 : i < hs.length
    · rw [if_pos rfl, if_pos h2, if_pos ⟨rfl, h2⟩]
      rfl
    · rw [if_pos rfl, if_neg h2, if_neg (fun q => h2 q.2), List.getElem?_eq_none (by omega)]
  · rw [if_neg h, if_neg (fun q => h q.1)]
theorem home_start {n : Nat} (h1 : 1 ≤ n) (h4 : n ≤ 4) : HomeS (List.replicate n ([] : List S31)) := by
  have e : ∀ j, (List.replicate n ([] : List S31)).getD j [] = [] := fun j => by
    rw [List.getD_eq_getElem?_getD, List.getElem?_replicate]
    split <;> rfl
  exact ⟨by rw [List.length_replicate]; omega, by rw [List.length_replicate]; omega, fun j x hx => by rw [e] at hx; exact absurd hx List.not_mem_nil, fun j => by rw [e]; exact good_nil⟩
theorem home_set {hs : List (List S31)} (h : HomeS hs) {i : Nat} {s : List S31} (hx : ∀ x ∈ s, homeOf x.f0 hs.length = i) (hg : GoodS s) : HomeS (hs.set i s) := by
  refine ⟨by rw [List.length_set]; exact h.pos, by rw [List.length_set]; exact h.few, fun j x hj => ?_, fun j => ?_⟩
  · rw [List.length_set]
    rw [getD_set] at hj
    split at hj
    · rename_i q
      rw [hx x hj, q.1]
    · exact h.home j x hj
  · rw [getD_set]
    split
    · exact hg
    · exact h.good j
theorem home_put {hs : List (List S31)} (h : HomeS hs) {x : S31} (hx : GoodT x) (hm : hs.flatten.length < 1000000) : HomeS (putS hs x) := by
  unfold putS
  split
  · exact h
  · have hl : (hs.getD (homeOf x.f0 hs.length) []).length ≤ hs.flatten.length := by
      rw [List.getD_eq_getElem?_getD]
      rcases Nat.lt_or_ge (homeOf x.f0 hs.length) hs.length with q | q
      · rw [List.getElem?_eq_getElem q]
        exact (List.sublist_flatten_of_mem (List.getElem_mem q)).length_le
      · rw [List.getElem?_eq_none q]
        exact Nat.zero_le _
    refine home_set h (fun y hy => ?_) (good_push (h.good _) hx (by omega))
    rcases push_mem_or hy with rfl | hy
    · rfl
    · exact h.home _ y hy
theorem home_sub {hs : List (List S31)} (h : HomeS hs) {i : Nat} {s : List S31} (hs' : s.Sublist (hs.getD i [])) : HomeS (hs.set i s) :=
  home_set h (fun x hx => h.home i x (hs'.subset hx)) (good_sub (h.good i) hs')
theorem take_sub (s : List S31) (a : Int) : (takeS s a).Sublist s := by
  unfold takeS
  split
  · exact List.tail_sublist s
  · exact List.Sublist.refl s
theorem home_turn {hs : List (List S31)} (h : HomeS hs) (i a : Int) : HomeS (turnR hs i a).hs := by
  unfold turnR
  repeat' split
  · exact h
  · exact home_sub h (take_sub _ _)
  · exact home_sub h (take_sub _ _)
  · exact h
theorem home_drop {hs : List (List S31)} (h : HomeS hs) (j : Nat) (r : Int) : HomeS (hs.set j (withoutL (hs.getD j []) r)) := home_sub h List.filter_sublist
/-- One heap's tasks, and the others'. -/
theorem flat_pick {α : Type} : ∀ (hs : List (List α)) (i : Nat), i < hs.length → ∃ R, hs.flatten.Perm (hs.getD i [] ++ R) ∧ ∀ s, (hs.set i s).flatten.Perm (s ++ R)
  | [], i, h => absurd h (Nat.not_lt_zero _)
  | t :: hs, 0, _ => ⟨hs.flatten, List.Perm.refl _, fun s => List.Perm.refl _⟩
  | t :: hs, i + 1, h => by
    obtain ⟨R, r1, r2⟩ := flat_pick hs i (by simpa using h)
    refine ⟨t ++ R, ?_, fun s => ?_⟩
    · rw [List.flatten_cons, List.getD_cons_succ]
      refine (r1.append_left t).trans ?_
      rw [← List.append_assoc, ← List.append_assoc]
      exact List.perm_append_comm.append_right R
    · rw [List.set_cons_succ, List.flatten_cons]
      refine ((r2 s).append_left t).trans ?_
      rw [← List.append_assoc, ← List.append_assoc]
      exact List.perm_append_comm.append_right R
theorem flat_len {α : Type} (hs : List (List α)) (i : Nat) (h : i < hs.length) (s : List α) : (hs.set i s).flatten.length + (hs.getD i []).length = hs.flatten.length + s.length := by
  obtain ⟨R, r1, r2⟩ := flat_pick hs i h
  rw [(r2 s).length_eq, r1.length_eq, List.length_append, List.length_append]
  omega
theorem put_len (hs : List (List S31)) (x : S31) : (putS hs x).flatten.length ≤ hs.flatten.length + 1 := by
  unfold putS
  split
  · omega
  · rcases Nat.lt_or_ge (homeOf x.f0 hs.length) hs.length with q | q
    · have := flat_len hs _ q (pushS (hs.getD (homeOf x.f0 hs.length) []) x)
      have := push_length (hs.getD (homeOf x.f0 hs.length) []) x
      omega
    · rw [List.set_eq_of_length_le q]
      omega
theorem take_len (s : List S31) (a : Int) (h : takeO s a = true) : (takeS s a).length + 1 = s.length := by
  unfold takeS
  rw [if_pos h]
  cases s with
  | nil => cases h
  | cons x t => rfl
theorem sub_len (hs : List (List S31)) (i : Nat) {s : List S31} (hs' : s.Sublist (hs.getD i [])) : (hs.set i s).flatten.length ≤ hs.flatten.length := by
  rcases Nat.lt_or_ge i hs.length with q | q
  · have := flat_len hs i q s
    have := hs'.length_le
    omega
  · rw [List.set_eq_of_length_le q]
    omega
theorem turn_len (hs : List (List S31)) (i a : Int) : (turnR hs i a).hs.flatten.length ≤ hs.flatten.length := by
  unfold turnR
  repeat' split
  · exact Nat.le_refl _
  · exact sub_len hs _ (take_sub _ _)
  · exact sub_len hs _ (take_sub _ _)
  · exact Nat.le_refl _
/-- All tasks are unlike. -/
theorem home_unlike {hs : List (List S31)} (h : HomeS hs) : Unlike hs.flatten := by
  unfold Unlike
  rw [List.pairwise_flatten]
  have e : ∀ (i : Nat) (hi : i < hs.length), hs[i] = hs.getD i [] := fun i hi => by rw [List.getD_eq_getElem?_getD, List.getElem?_eq_getElem hi]; rfl
  refine ⟨fun l hl => ?_, ?_⟩
  · obtain ⟨i, hi, rfl⟩ := List.getElem_of_mem hl
    rw [e i hi]
    exact (h.good i).once
  · rw [List.pairwise_iff_getElem]
    intro i j hi hj hij x hx y hy q
    rw [e i hi] at hx
    rw [e j hj] at hy
    have h1 := h.home i x hx
    have h2 := h.home j y hy
    rw [q, h2] at h1
    omega
theorem home_goods {hs : List (List S31)} (h : HomeS hs) : ∀ x ∈ hs.flatten, GoodT x := by
  intro x hx
  obtain ⟨l, hl, hxl⟩ := List.mem_flatten.1 hx
  obtain ⟨i, hi, rfl⟩ := List.getElem_of_mem hl
  have := (h.good i).good x
  rw [List.getD_eq_getElem?_getD, List.getElem?_eq_getElem hi] at this
  exact this hxl
theorem all_good {hs : List (List S31)} (h : HomeS hs) (hm : hs.flatten.length ≤ 1000000) : GoodS (sortL hs.flatten) ∧ (sortL hs.flatten).Perm hs.flatten := sort_good (home_unlike h) (home_goods h) hm
theorem filt {α : Type} (g : α → Nat) : ∀ (hs : List (List α)) (off i : Nat), (∀ j, ∀ x ∈ hs.getD j [], g x = j + off) → hs.flatten.filter (fun x => g x == i + off) = hs.getD i []
  | [], off, i, _ => rfl
  | t :: hs, off, i, h => by
    have h0 : ∀ x ∈ t, g x = off := fun x hx => by have := h 0 x hx; omega
    have h1 : ∀ j, ∀ x ∈ hs.getD j [], g x = j + (off + 1) := fun j x hx => by have := h (j + 1) x (by rw [List.getD_cons_succ]; exact hx); omega
    rw [List.flatten_cons, List.filter_append]
    cases i with
    | zero =>
      have e : hs.flatten.filter (fun x => g x == 0 + off) = [] := by
        rw [List.filter_eq_nil_iff]
        intro x hx
        obtain ⟨l, hl, hxl⟩ := List.mem_flatten.1 hx
        obtain ⟨j, hj, rfl⟩ := List.getElem_of_mem hl
        have := h1 j x (by rw [List.getD_eq_getElem?_getD, List.getElem?_eq_getElem hj]; exact hxl)
        simp only [beq_iff_eq]
        omega
      rw [e, List.append_nil, List.getD_cons_zero, List.filter_eq_self]
      intro x hx
      have := h0 x hx
      simp only [beq_iff_eq]
      omega
    | succ i =>
      have e : t.filter (fun x => g x == i + 1 + off) = [] := by
        rw [List.filter_eq_nil_iff]
        intro x hx
        have := h0 x hx
        simp only [beq_iff_eq]
        omega
      rw [e, List.nil_append, List.getD_cons_succ, ← filt g hs (off + 1) i h1]
      congr 1
      funext x
      rw [show i + 1 + off = i + (off + 1) by omega]
theorem own_filter {hs : List (List S31)} (h : HomeS hs) (hm : hs.flatten.length ≤ 1000000) (i : Nat) : (sortL hs.flatten).filter (fun x => homeOf x.f0 hs.length == i) = hs.getD i [] := by
  obtain ⟨h1, h2⟩ := all_good h hm
  refine rise_unique (h1.rise.sublist List.filter_sublist) (h.good i).rise ?_
  rw [← filt (fun x : S31 => homeOf x.f0 hs.length) hs 0 i (fun j x hx => by rw [h.home j x hx]; rfl)]
  exact h2.filter _
/-- The first of a list that meets a test, as the law's 'earliest' tells it. -/
def headP (s : List S31) : Value := pairV (s.headD z31) (!s.isEmpty)
theorem earliest_l (l : List S31) (n i : Nat) (hn : 0 < n) (hg : ∀ x ∈ l, GoodT x) (hm : l.length ≤ 1000000) : ∀ k j : Nat, l.length - j < k →
    tocsinlaw26_earliest.l0 k l (i : Int) (n : Int) (j : Int) = some ((((l.drop j).filter fun x => homeOf x.f0 n == i).headD z31).f0, (((l.drop j).filter fun x => homeOf x.f0 n == i).headD z31).f1, !((l.drop j).filter fun x => homeOf x.f0 n == i).isEmpty)
  | 0, j, h => absurd h (Nat.not_lt_zero _)
  | k + 1, j, h => by
    unfold tocsinlaw26_earliest.l0
    by_cases hj : j < l.length
    · have hx : GoodT (rd_T31 l (j : Int)) := hg _ (by rw [rd_nat l hj]; exact List.getElem_mem hj)
      rw [if_pos (by omega), if_pos (by omega), if_neg (by omega), drop_nat l hj, wrap_nat (by omega), earliest_l l n i hn hg hm k (j + 1) (by omega), List.filter_cons]
      generalize rd_T31 l (j : Int) = x at hx ⊢
      have e : Int.tmod (wrap64 x.f0) (n : Int) = ((homeOf x.f0 n : Nat) : Int) := by
        obtain ⟨a, b⟩ := hx
        rw [show wrap64 x.f0 = x.f0 by unfold wrap64; omega]
        unfold homeOf
        rw [Int.tmod_eq_emod_of_nonneg a, Int.natCast_emod, Int.toNat_of_nonneg a]
      rw [e]
      by_cases q : homeOf x.f0 n = i
      · rw [if_pos (by omega), if_pos (by simpa using q)]
        rfl
      · rw [if_neg (by omega), if_neg (by simpa using q)]
    · rw [if_neg (by omega), List.drop_eq_nil_of_le (by omega)]
      rfl
theorem earliest_calls {w : World} {A : Option Addr} {c : Nat} {hs : List (List S31)} (h : HomeS hs) (hm : hs.flatten.length ≤ 1000000) (hC : Kd.C k31 w A (sortL hs.flatten).length (sortL hs.flatten)) (hc : (sortL hs.flatten).length ≤ c) (i : Nat) :
    Calls Try.prog 11 #[.slice A (sortL hs.flatten).length c, .int .i64 (i : Int), .int .i64 (hs.length : Int)] w fun e w' => e = .returned (headP (hs.getD i [])) ∧ Below w.heap.size w w' := by
  obtain ⟨h1, h2⟩ := all_good h hm
  have he := earliest_l (sortL hs.flatten) hs.length i h.pos h1.good (by rw [h2.length_eq]; exact hm) ((sortL hs.flatten).length + 1) 0 (by omega)
  rw [List.drop_zero, own_filter h hm i] at he
  exact tocsinlaw26_earliest.calls ((sortL hs.flatten).length + 1) A c _ _ _ _ _ _ w hC hc he
theorem wrap_n (a : Int) : ∃ n : Nat, 1 ≤ n ∧ n ≤ 4 ∧ wrap64 (1 + wrap64 ((IntKind.u64.wrap a).tmod 4)) = (n : Int) := by
  obtain ⟨h1, h2⟩ := wrap_within .u64 a
  have h1' : 0 ≤ IntKind.u64.wrap a := h1
  rw [Int.tmod_eq_emod_of_nonneg h1']
  generalize IntKind.u64.wrap a = b at *
  refine ⟨(1 + b % 4).toNat, by omega, by omega, ?_⟩
  unfold wrap64
  omega
theorem wrap_j (a : Int) (n : Nat) (h1 : 1 ≤ n) (h4 : n ≤ 4) : ∃ j : Nat, j < n ∧ wrap64 ((IntKind.u64.wrap a).tmod (IntKind.u64.wrap (n : Int))) = (j : Int) := by
  obtain ⟨g1, g2⟩ := wrap_within .u64 a
  have g1' : 0 ≤ IntKind.u64.wrap a := g1
  have e : IntKind.u64.wrap (n : Int) = (n : Int) := by
    rcases (show n = 1 ∨ n = 2 ∨ n = 3 ∨ n = 4 by omega) with rfl | rfl | rfl | rfl <;> rfl
  rw [e, Int.tmod_eq_emod_of_nonneg g1']
  generalize IntKind.u64.wrap a = b at *
  have m0 := Int.emod_nonneg b (show (n : Int) ≠ 0 by omega)
  have m1 := Int.emod_lt_of_pos b (show (0 : Int) < n by omega)
  refine ⟨(b % n).toNat, by omega, ?_⟩
  unfold wrap64
  omega
theorem wrap_z (a : Int) : (IntKind.u64.wrap (wrap64 (1 + wrap64 ((IntKind.u64.wrap a).tmod 4))) == 0) = false := by
  obtain ⟨n, h1, h4, e⟩ := wrap_n a
  rw [e]
  rcases (show n = 1 ∨ n = 2 ∨ n = 3 ∨ n = 4 by omega) with rfl | rfl | rfl | rfl <;> rfl
theorem take_true {s : List S31} {a : Int} (h : takeO s a = true) : ∃ x t, s = x :: t ∧ x.f1 ≤ a := by
  cases s with
  | nil => cases h
  | cons x t => exact ⟨x, t, rfl, of_decide_eq_true h⟩
theorem take_false {s : List S31} {a : Int} (h : takeO s a = false) : s = [] ∨ ∃ x t, s = x :: t ∧ ¬ x.f1 ≤ a := by
  cases s with
  | nil => exact .inl rfl
  | cons x t => exact .inr ⟨x, t, rfl, of_decide_eq_false h⟩
theorem takes_cons {x : S31} {t : List S31} {a : Int} (h : x.f1 ≤ a) : takeX (x :: t) a = x ∧ takeS (x :: t) a = t := by
  have e : takeO (x :: t) a = true := decide_eq_true h
  unfold takeX takeS
  rw [e]
  exact ⟨rfl, rfl⟩
theorem turnR_own {hs : List (List S31)} {j : Nat} {a : Int} {x : S31} {t : List S31} (hj : j < hs.length) (hs' : hs.getD j [] = x :: t) (hx : x.f1 ≤ a) : turnR hs (j : Int) a = ⟨x, false, true, hs.set j t⟩ := by
  unfold turnR
  have e : turnOwn hs j a = true := by unfold turnOwn; rw [hs']; exact decide_eq_true hx
  rw [if_neg (by omega), Int.toNat_natCast, if_pos e, hs', (takes_cons hx).1, (takes_cons hx).2]
theorem turnR_other {hs : List (List S31)} {j m : Nat} {a : Int} {y : S31} {u : List S31} (hj : j < hs.length) (ho : turnOwn hs j a = false) (hm : mostF hs hs.length = m) (hne : m ≠ j) (hs' : hs.getD m [] = y :: u) (hy : y.f1 ≤ a) : turnR hs (j : Int) a = ⟨y, true, true, hs.set m u⟩ := by
  unfold turnR
  have e : turnOther hs j a = true := by
    unfold turnOther
    rw [hm, decide_eq_true hne, hs']
    exact decide_eq_true hy
  rw [if_neg (by omega), Int.toNat_natCast, if_neg (by rw [ho]; decide), if_pos e, hm, hs', (takes_cons hy).1, (takes_cons hy).2]
theorem turnR_none {hs : List (List S31)} {j : Nat} {a : Int} (hj : j < hs.length) (ho : turnOwn hs j a = false) (hn : turnOther hs j a = false) : turnR hs (j : Int) a = ⟨z31, false, false, hs⟩ := by
  unfold turnR
  rw [if_neg (by omega), Int.toNat_natCast, if_neg (by rw [ho]; decide), if_neg (by rw [hn]; decide)]
theorem tail_box {B : Nat} {w : World} {T : Th} {L Ts : List Th} (h : Has B w (T :: (L ++ Ts))) : Has B w (L ++ (T :: Ts)) := h.perm List.perm_middle.symm
theorem head_box {B : Nat} {w : World} {T : Th} {L Ts : List Th} (h : Has B w (L ++ (T :: Ts))) : Has B w (T :: (L ++ Ts)) := h.perm List.perm_middle
theorem second {B : Nat} {w : World} {T U : Th} {L Ts : List Th} (h : Has B w (L ++ (T :: U :: Ts))) : Has B w (L ++ (U :: T :: Ts)) := h.perm ((List.Perm.swap _ _ _).append_left L)
theorem mem_flat {hs : List (List S31)} {s : List S31} (h : s ∈ hs) : s.length ≤ hs.flatten.length := (List.sublist_flatten_of_mem h).length_le
theorem flat_one {n : Nat} : List.flatten (List.replicate n ([] : List S31)) = [] := by simp
end Go.Proofs.Ytpnoghnhlddjeaa.Wk
namespace Go.Proofs.Ytpnoghnhlddjeaa.Wk
open Go.RowKit Go.Proofs.YtpnoghnhlddjeaaW.PrintWords Go.Proofs.YtpnoghnhlddjeaaW.PrintLast Go.Proofs.YtpnoghnhlddjeaaW.PrintMore Go.Proofs.Ytpnoghnhlddjeaa.Q Go.Proofs.Ytpnoghnhlddjeaa.Own Go.Proofs.Ytpnoghnhlddjeaa.Hp
set_option linter.unusedVariables false
set_option linter.unusedSimpArgs false

def hasT (l : List S31) (x : S31) : Bool := l.any fun y => y.f0 == x.f0 && y.f1 == x.f1
def dropT (l : List S31) (x : S31) : List S31 := l.filter fun y => !(y.f0 == x.f0) || !(y.f1 == x.f1)
theorem eq_T {x y : S31} (h : (y.f0 == x.f0 && y.f1 == x.f1) = true) : y = x := by
  obtain ⟨x0, x1⟩ := x
  obtain ⟨y0, y1⟩ := y
  simp only [Bool.and_eq_true, beq_iff_eq] at h
  rw [h.1, h.2]
theorem hasT_true {l : List S31} {x : S31} (h : x ∈ l) : hasT l x = true := List.any_eq_true.2 ⟨x, h, by simp⟩
theorem has_l (l : List S31) (x : S31) (hm : l.length ≤ 1000000) : ∀ k i : Nat, l.length - i < k → tocsinlaw26_has.l0 k l (i : Int) x.f0 x.f1 = some (hasT (l.drop i) x)
  | 0, i, h => absurd h (Nat.not_lt_zero _)
  | k + 1, i, h => by
    unfold tocsinlaw26_has.l0
    by_cases hi : i < l.length
    · rw [if_pos (by omega), if_pos (by omega), drop_nat l hi, wrap_nat (by omega), has_l l x hm k (i + 1) (by omega)]
      unfold hasT
      rw [List.any_cons]
      by_cases e : ((rd_T31 l (i : Int)).f0 == x.f0 && (rd_T31 l (i : Int)).f1 == x.f1) = true
      · rw [if_pos e, e, Bool.true_or]
      · rw [if_neg e, Bool.eq_false_iff.2 e, Bool.false_or]
    · rw [if_neg (by omega), List.drop_eq_nil_of_le (by omega)]
      rfl
theorem drop_l (l : List S31) (x : S31) (hm : l.length ≤ 1000000) : ∀ (k i : Nat) (o : List S31), l.length - i < k → o.length ≤ i → tocsinlaw26_without.l0 k l o (i : Int) x.f0 x.f1 = some (o ++ dropT (l.drop i) x)
  | 0, i, o, h, _ => absurd h (Nat.not_lt_zero _)
  | k + 1, i, o, h, ho => by
    unfold tocsinlaw26_without.l0
    by_cases hi : i < l.length
    · rw [if_pos (by omega), if_pos (by omega), drop_nat l hi, wrap_nat (by omega)]
      unfold dropT
      rw [List.filter_cons]
      by_cases e : (!((rd_T31 l (i : Int)).f0 == x.f0) || (!((rd_T31 l (i : Int)).f1 == x.f1))) = true
      · rw [if_pos e, if_pos (by omega), if_pos e, drop_l l x hm k (i + 1) _ (by omega) (by simp; omega), List.append_assoc]
        rfl
      · rw [if_neg e, if_neg e, drop_l l x hm k (i + 1) o (by omega) (by omega)]
        rfl
    · rw [if_neg (by omega), List.drop_eq_nil_of_le (by omega)]
      simp [dropT]
theorem hasT_calls {w : World} {A : Option Addr} {c : Nat} {l : List S31} (hC : Kd.C k31 w A l.length l) (hc : l.length ≤ c) (hm : l.length ≤ 1000000) (x : S31) :
    Calls Try.prog 22 #[.slice A l.length c, aggT x] w fun e w' => e = .returned (.bool (hasT l x)) ∧ Below w.heap.size w w' := by
  have h := has_l l x hm (l.length + 1) 0 (by omega)
  rw [List.drop_zero] at h
  exact tocsinlaw26_has.calls (l.length + 1) A c l x.f0 x.f1 _ w hC hc h
theorem dropT_calls {w : World} {A : Option Addr} {c : Nat} {l : List S31} (hC : Kd.C k31 w A l.length l) (hc : l.length ≤ c) (hm : l.length ≤ 1000000) (x : S31) :
    Calls Try.prog 23 #[.slice A l.length c, aggT x] w (RowPost w (dropT l x)) := by
  have h := drop_l l x hm (l.length + 1) 0 [] (by omega) (Nat.le_refl _)
  rw [List.drop_zero, List.nil_append] at h
  exact tocsinlaw26_without.calls (l.length + 1) A c l x.f0 x.f1 _ w hC hc h
theorem unlike_eq {l : List S31} (hu : Unlike l) {x y : S31} (hx : x ∈ l) (hy : y ∈ l) (h : x.f0 = y.f0) : x = y := by
  unfold Unlike at hu
  rw [List.pairwise_iff_getElem] at hu
  obtain ⟨i, hi, rfl⟩ := List.getElem_of_mem hx
  obtain ⟨j, hj, rfl⟩ := List.getElem_of_mem hy
  rcases Nat.lt_trichotomy i j with q | rfl | q
  · exact absurd h (hu i j hi hj q)
  · rfl
  · exact absurd h.symm (hu j i hj hi q)
/-- Taken away as a task, or as its rule's. -/
theorem dropT_eq {l : List S31} (hu : Unlike l) {x : S31} (hx : x ∈ l) : dropT l x = withoutL l x.f0 := by
  unfold dropT withoutL
  refine List.filter_congr fun y hy => ?_
  by_cases e : y.f0 = x.f0
  · rw [unlike_eq hu hy hx e]
    simp
  · have e2 : (y.f0 == x.f0) = false := beq_eq_false_iff_ne.2 e
    have e3 : (y.f0 != x.f0) = true := by rw [bne, e2]; rfl
    rw [e2, e3]
    rfl
theorem without_self {m : List S31} {r : Int} (h : ∀ y ∈ m, r ≠ y.f0) : withoutL m r = m := by
  unfold withoutL
  rw [List.filter_eq_self]
  intro y hy
  rw [bne_iff_ne]
  exact Ne.symm (h y hy)
theorem without_perm {l m : List S31} {x : S31} (hu : Unlike l) (hp : l.Perm (x :: m)) : (withoutL l x.f0).Perm m := by
  have h1 : (withoutL l x.f0).Perm (withoutL (x :: m) x.f0) := hp.filter _
  have h2 := (List.pairwise_cons.1 (unlike_perm hp hu)).1
  have h3 : withoutL (x :: m) x.f0 = m := by
    have : withoutL (x :: m) x.f0 = withoutL m x.f0 := by
      unfold withoutL
      rw [List.filter_cons, if_neg (by simp)]
    rw [this, without_self h2]
  rwa [h3] at h1
theorem mem_perm {s : List S31} (hu : Unlike s) {y : S31} (hy : y ∈ s) : s.Perm (y :: withoutL s y.f0) := by
  obtain ⟨s1, s2, rfl⟩ := List.append_of_mem hy
  have hp : (s1 ++ y :: s2).Perm (y :: (s1 ++ s2)) := List.perm_middle
  exact hp.trans (List.Perm.cons _ (without_perm hu hp).symm)
theorem drop_perm {hs : List (List S31)} (h : HomeS hs) {j : Nat} (hj : j < hs.length) {r : Int} (hh : hasL (hs.getD j []) r = true) : ∃ y, y.f0 = r ∧ hs.flatten.Perm (y :: (hs.set j (withoutL (hs.getD j []) r)).flatten) := by
  obtain ⟨y, hy, rfl⟩ := hasL_true.1 hh
  obtain ⟨R, r1, r2⟩ := flat_pick hs j hj
  refine ⟨y, rfl, r1.trans ?_⟩
  refine ((mem_perm (h.good j).once hy).append_right R).trans ?_
  rw [List.cons_append]
  exact List.Perm.cons _ (r2 _).symm
theorem set_self {α : Type} (hs : List (List α)) (j : Nat) : hs.set j (hs.getD j []) = hs := by
  rcases Nat.lt_or_ge j hs.length with q | q
  · rw [List.getD_eq_getElem?_getD, List.getElem?_eq_getElem q]
    exact List.set_getElem_self q
  · exact List.set_eq_of_length_le q
theorem drop_none {hs : List (List S31)} {j : Nat} {r : Int} (hh : hasL (hs.getD j []) r = false) : hs.set j (withoutL (hs.getD j []) r) = hs := by
  rw [without_self (fun y hy e => hasL_false.1 hh y hy e.symm), set_self]
theorem takes_perm {s : List S31} {a : Int} (h : takeO s a = true) : s = takeX s a :: takeS s a ∧ (takeX s a).f1 ≤ a := by
  obtain ⟨x, t, rfl, hx⟩ := take_true h
  rw [(takes_cons hx).1, (takes_cons hx).2]
  exact ⟨rfl, hx⟩
theorem turn_ok {hs : List (List S31)} {i a : Int} (hok : (turnR hs i a).ok = true) (hm : 0 < hs.length) : hs.flatten.Perm ((turnR hs i a).x :: (turnR hs i a).hs.flatten) ∧ (turnR hs i a).x.f1 ≤ a := by
  have key : ∀ j, takeO (hs.getD j []) a = true → hs.flatten.Perm (takeX (hs.getD j []) a :: (hs.set j (takeS (hs.getD j []) a)).flatten) ∧ (takeX (hs.getD j []) a).f1 ≤ a := by
    intro j h
    have hj : j < hs.length := by
      rcases Nat.lt_or_ge j hs.length with q | q
      · exact q
      · rw [List.getD_eq_getElem?_getD, List.getElem?_eq_none q] at h
        cases h
    obtain ⟨R, r1, r2⟩ := flat_pick hs j hj
    obtain ⟨e1, e2⟩ := takes_perm h
    refine ⟨r1.trans ?_, e2⟩
    have : (hs.getD j [] ++ R).Perm ((takeX (hs.getD j []) a :: takeS (hs.getD j []) a) ++ R) := by rw [← e1]
    refine this.trans ?_
    rw [List.cons_append]
    exact List.Perm.cons _ (r2 _).symm
  unfold turnR at hok ⊢
  split at hok
  · cases hok
  · rename_i h0
    rw [if_neg h0]
    split at hok
    · rename_i h1
      rw [if_pos h1]
      exact key _ h1
    · rename_i h1
      rw [if_neg h1]
      split at hok
      · rename_i h2
        rw [if_pos h2]
        unfold turnOther at h2
        exact key _ (by simpa using (Bool.and_eq_true _ _ ▸ h2).2)
      · cases hok
theorem turn_no {hs : List (List S31)} {i a : Int} (hok : (turnR hs i a).ok = false) : (turnR hs i a).hs = hs := by
  unfold turnR at hok ⊢
  split at hok
  · rename_i h0
    rw [if_pos h0]
  · rename_i h0
    rw [if_neg h0]
    split at hok
    · cases hok
    · rename_i h1
      rw [if_neg h1]
      split at hok
      · cases hok
      · rename_i h2
        rw [if_neg h2]
theorem turn_not {hs : List (List S31)} {j : Nat} {a : Int} (hj : j < hs.length) (hok : (turnR hs (j : Int) a).ok = false) : takeO (hs.getD j []) a = false := by
  unfold turnR at hok
  rw [if_neg (by omega)] at hok
  split at hok
  · cases hok
  · rename_i h1
    rw [Int.toNat_natCast] at h1
    cases h : takeO (hs.getD j []) a with
    | true => exact absurd h h1
    | false => rfl
/-- How many tasks are due. -/
def due (a : Int) (l : List S31) : Nat := l.countP fun x => decide (x.f1 ≤ a)
theorem due_perm {a : Int} {l m : List S31} (h : l.Perm m) : due a l = due a m := h.countP_eq _
theorem due_take {a : Int} {l m : List S31} {x : S31} (h : l.Perm (x :: m)) (hx : x.f1 ≤ a) : due a l = due a m + 1 := by
  rw [due_perm h]
  unfold due
  rw [List.countP_cons, if_pos (by simpa using hx)]
theorem due_le (a : Int) (l : List S31) : due a l ≤ l.length := List.countP_le_length
theorem due_none {a : Int} {l : List S31} (h : due a l = 0) : ∀ x ∈ l, ¬ x.f1 ≤ a := by
  intro x hx
  unfold due at h
  rw [List.countP_eq_zero] at h
  simpa using h x hx
/-- A heap whose first task isn't due has none that is. -/
theorem good_due {s : List S31} (hg : GoodS s) {a : Int} (h : takeO s a = false) : ∀ x ∈ s, ¬ x.f1 ≤ a := by
  rcases take_false h with rfl | ⟨y, t, rfl, hy⟩
  · exact fun x hx => absurd hx List.not_mem_nil
  · intro x hx
    rcases List.mem_cons.1 hx with rfl | hx
    · exact hy
    · have h1 := (List.pairwise_cons.1 hg.rise).1 x hx
      have h2 := hg.good y (List.mem_cons_self ..)
      have h3 := hg.good x (List.mem_cons_of_mem _ hx)
      obtain ⟨a1, a2⟩ := h2
      obtain ⟨b1, b2⟩ := h3
      unfold keyT at h1
      omega
theorem none_due {hs : List (List S31)} {a : Int} (h : ∀ j, j < hs.length → ∀ x ∈ hs.getD j [], ¬ x.f1 ≤ a) : due a hs.flatten = 0 := by
  unfold due
  rw [List.countP_eq_zero]
  intro x hx
  obtain ⟨l, hl, hxl⟩ := List.mem_flatten.1 hx
  obtain ⟨i, hi, rfl⟩ := List.getElem_of_mem hl
  have := h i hi x (by rw [List.getD_eq_getElem?_getD, List.getElem?_eq_getElem hi]; exact hxl)
  simpa using this
theorem put_perm {hs : List (List S31)} (hm : 0 < hs.length) {x : S31} (he : putE hs x = 0) : (putS hs x).flatten.Perm (hs.flatten ++ [x]) := by
  unfold putE at he
  unfold putS
  split at he
  · cases he
  · rename_i h0
    rw [if_neg h0]
    split at he
    · cases he
    · rename_i h1
      have hj : homeOf x.f0 hs.length < hs.length := Nat.mod_lt _ hm
      obtain ⟨R, r1, r2⟩ := flat_pick hs _ hj
      refine (r2 _).trans ?_
      have e : pushS (hs.getD (homeOf x.f0 hs.length) []) x = withL (hs.getD (homeOf x.f0 hs.length) []) x := by
        unfold pushS
        rw [if_neg h1]
      rw [e]
      refine ((with_perm _ x).append_right R).trans ?_
      rw [List.cons_append]
      exact (List.Perm.cons x r1.symm).trans (List.perm_append_comm (l₁ := [x]))
theorem put_no {hs : List (List S31)} {x : S31} (he : putE hs x ≠ 0) : putS hs x = hs := by
  unfold putE at he
  unfold putS
  split
  · rfl
  · rename_i h0
    rw [if_neg h0] at he
    split at he
    · rename_i h1
      unfold pushS
      rw [if_pos h1, set_self]
    · exact absurd rfl he
theorem drop2 {B : Nat} {w : World} {T U : Th} {L Ts : List Th} (h : Has B w (L ++ (T :: U :: Ts))) : Has B w (L ++ (T :: Ts)) := (head_box (second h)).tail
theorem without_len {r : Int} {s : List S31} (hu : Unlike s) (h : hasL s r = true) : (withoutL s r).length + 1 = s.length := by
  obtain ⟨y, hy, rfl⟩ := hasL_true.1 h
  rw [(mem_perm hu hy).length_eq]
  rfl
end Go.Proofs.Ytpnoghnhlddjeaa.Wk
