/- Lists of things that have names, rising: found, cut away, put in their place; maps that tell them. No law is proved here. -/
import Derived.Test.YtlhlaadnifkdhaaRws
import Derived.Test.YtlhlaadnifkdhaaWShare
import Derived.Test.YtlhlaadnifkdhaaWMore
import Derived.Maps.OwnSet
import Derived.Test.YtlhlaadnifkdhaaProg
namespace Go.Proofs.Ytlhlaadnifkdhaa.Nmd
open Go.RowKit Go.Proofs.YtlhlaadnifkdhaaW.PrintWords Go.Proofs.Ytlhlaadnifkdhaa.Own
set_option linter.unusedVariables false
set_option linter.unusedSimpArgs false
section
variable {α : Type} {key : α → List UInt8}
theorem lt_tri (a b : List UInt8) : a < b ∨ a = b ∨ b < a := by
  by_cases h1 : a < b
  · exact .inl h1
  · by_cases h2 : b < a
    · exact .inr (.inr h2)
    · exact .inr (.inl (List.le_antisymm (List.not_lt.1 h2) (List.not_lt.1 h1)))
/-- The files, by rising names. -/
def Rise (key : α → List UInt8) (L : List α) : Prop := L.Pairwise fun a b => key a < key b
def findF (key : α → List UInt8) (L : List α) (n : List UInt8) : Option α := L.find? fun x => key x == n
def cutF (key : α → List UInt8) (L : List α) (n : List UInt8) : List α := L.filter fun x => key x != n
def insF (key : α → List UInt8) : List α → α → List α
  | [], x => [x]
  | y :: L, x => if key x < key y then x :: y :: L else y :: insF key L x
def setF (key : α → List UInt8) (L : List α) (x : α) : List α := insF key (cutF key L (key x)) x
theorem ins_perm : ∀ (L : List α) (x : α), (insF key L x).Perm (x :: L)
  | [], x => List.Perm.refl _
  | y :: L, x => by
    unfold insF
    split
    · exact List.Perm.refl _
    · exact (List.Perm.cons y (ins_perm L x)).trans (List.Perm.swap _ _ _)
theorem cut_mem {L : List α} {n : List UInt8} {x : α} : x ∈ cutF key L n ↔ x ∈ L ∧ key x ≠ n := by
  unfold cutF
  rw [List.mem_filter, bne_iff_ne]
theorem cut_rise {L : List α} (h : Rise key L) (n : List UInt8) : Rise key (cutF key L n) := List.Pairwise.filter _ h
theorem ins_rise : ∀ {L : List α} {x : α}, Rise key L → (∀ y ∈ L, key y ≠ key x) → Rise key (insF key L x)
  | [], x, _, _ => List.pairwise_singleton _ _
  | y :: L, x, h, hn => by
    obtain ⟨h1, h2⟩ := List.pairwise_cons.1 h
    unfold insF
    split
    · rename_i hlt
      refine List.pairwise_cons.2 ⟨fun z hz => ?_, h⟩
      rcases List.mem_cons.1 hz with rfl | hz
      · exact hlt
      · exact List.lt_trans hlt (h1 z hz)
    · rename_i hlt
      refine List.pairwise_cons.2 ⟨fun z hz => ?_, ins_rise h2 fun z hz => hn z (List.mem_cons_of_mem _ hz)⟩
      rcases List.mem_cons.1 ((ins_perm L x).mem_iff.1 hz) with rfl | hz
      · rcases lt_tri (key y) (key z) with q | q | q
        · exact q
        · exact absurd q (hn y (List.mem_cons_self ..))
        · exact absurd q hlt
      · exact h1 z hz
theorem set_rise {L : List α} (h : Rise key L) (x : α) : Rise key (setF key L x) := ins_rise (cut_rise h _) fun y hy => (cut_mem.1 hy).2
theorem rise_unlike {L : List α} (h : Rise key L) : L.Pairwise fun a b => key a ≠ key b := h.imp fun {a b} q e => by rw [e] at q; exact List.lt_irrefl _ q
theorem find_mem {L : List α} {n : List UInt8} {x : α} (h : findF key L n = some x) : x ∈ L ∧ key x = n := ⟨List.mem_of_find?_eq_some h, by have := List.find?_some h; simpa using this⟩
theorem find_none {L : List α} {n : List UInt8} : findF key L n = none ↔ ∀ x ∈ L, key x ≠ n := by
  unfold findF
  rw [List.find?_eq_none]
  simp
theorem find_of {L : List α} (h : L.Pairwise fun a b => key a ≠ key b) {x : α} (hx : x ∈ L) : findF key L (key x) = some x := by
  induction L with
  | nil => exact absurd hx List.not_mem_nil
  | cons y L ih =>
    obtain ⟨h1, h2⟩ := List.pairwise_cons.1 h
    unfold findF
    rw [List.find?_cons]
    rcases List.mem_cons.1 hx with rfl | hx
    · simp
    · have : (key y == key x) = false := beq_eq_false_iff_ne.2 (h1 x hx)
      rw [this]
      exact ih h2 hx
theorem find_set {L : List α} (h : Rise key L) (x : α) (n : List UInt8) : findF key (setF key L x) n = if n = key x then some x else findF key L n := by
  have hr := rise_unlike (set_rise h x)
  by_cases e : n = key x
  · rw [if_pos e, e]
    exact find_of hr ((ins_perm _ x).mem_iff.2 (List.mem_cons_self ..))
  · rw [if_neg e]
    cases hf : findF key L n with
    | none =>
      rw [find_none]
      intro y hy q
      rcases List.mem_cons.1 ((ins_perm _ x).mem_iff.1 hy) with rfl | hy
      · exact e q.symm
      · exact find_none.1 hf y (cut_mem.1 hy).1 q
    | some y =>
      obtain ⟨h1, h2⟩ := find_mem hf
      rw [← h2]
      exact find_of hr ((ins_perm _ x).mem_iff.2 (List.mem_cons_of_mem _ (cut_mem.2 ⟨h1, fun q => e (h2.symm.trans q)⟩)))
theorem find_cut {L : List α} (h : Rise key L) (m n : List UInt8) : findF key (cutF key L m) n = if n = m then none else findF key L n := by
  by_cases e : n = m
  · rw [if_pos e, find_none]
    intro y hy q
    exact (cut_mem.1 hy).2 (q.trans e)
  · rw [if_neg e]
    cases hf : findF key L n with
    | none => exact find_none.2 fun y hy => find_none.1 hf y (cut_mem.1 hy).1
    | some y =>
      obtain ⟨h1, h2⟩ := find_mem hf
      rw [← h2]
      exact find_of (rise_unlike (cut_rise h m)) (cut_mem.2 ⟨h1, fun q => e (h2.symm.trans q)⟩)
theorem cut_len {L : List α} (h : Rise key L) (n : List UInt8) : (cutF key L n).length + (if (findF key L n).isSome = true then 1 else 0) = L.length := by
  have key : ∀ {L : List α}, (L.Pairwise fun a b => key a ≠ key b) → (cutF key L n).length + (if (findF key L n).isSome = true then 1 else 0) = L.length := by
    intro L
    induction L with
    | nil => intro _; rfl
    | cons y L ih =>
      intro h
      obtain ⟨h1, h2⟩ := List.pairwise_cons.1 h
      have hi := ih h2
      unfold cutF findF at hi ⊢
      rw [List.filter_cons, List.find?_cons]
      by_cases e : key y = n
      · have e1 : (key y == n) = true := beq_iff_eq.2 e
        have e2 : (key y != n) = false := by rw [bne, e1]; rfl
        rw [e1, e2]
        have hf : L.find? (fun x => key x == n) = none := by
          rw [List.find?_eq_none]
          intro z hz q
          exact h1 z hz (e.trans (beq_iff_eq.1 q).symm)
        rw [hf] at hi
        simp at hi ⊢
        exact hi
      · have e1 : (key y == n) = false := beq_eq_false_iff_ne.2 e
        have e2 : (key y != n) = true := by rw [bne, e1]; rfl
        rw [e1, e2]
        simp at hi ⊢
        omega
  exact key (rise_unlike h)
theorem set_len {L : List α} (h : Rise key L) (x : α) : (setF key L x).length = if (findF key L (key x)).isSome = true then L.length else L.length + 1 := by
  have h1 := cut_len h (key x)
  have h2 := (ins_perm (key := key) (cutF key L (key x)) x).length_eq
  unfold setF
  rw [h2, List.length_cons]
  split
  · rename_i e
    rw [if_pos e] at h1
    omega
  · rename_i e
    rw [if_neg e] at h1
    omega
/-- How an element of a map reads: as it stands. -/
def RV (v : Value) : Option (DataW Value × List MemPlace) := some (.held v, [])
theorem lawK : Go.Maps.Keyed Try.prog 9 := Go.Maps.string_keyed Try.underlying9
/-- A map tells a list: at each name what stands for its element. -/
structure Tells (key : α → List UInt8) (val : α → Value) (D : DataW Value) (L : List α) : Prop where
  map : Go.Maps.IsMap D
  has : ∀ n, Go.Maps.has D (.string n) = (findF key L n).isSome
  size : Go.Maps.size D = L.length
  hit : ∀ n x, findF key L n = some x → ∀ z, D.atKey (.string n) z = .held (val x)
  miss : ∀ n, findF key L n = none → ∀ z, D.atKey (.string n) z = z
variable {val : α → Value}
theorem tells_start : Tells key val (.map []) [] := ⟨Go.Maps.isMap_empty, fun n => rfl, rfl, fun n x e => (by cases e), fun n _ z => rfl⟩
theorem tells_put {D : DataW Value} {L : List α} (h : Tells key val D L) (ht : Go.Maps.Tidy D) (hr : Rise key L) (x : α) : Tells key val (D.put (.string (key x)) (.held (val x))) (setF key L x) := by
  refine ⟨h.map.put _ _, fun n => ?_, ?_, fun n y e => ?_, fun n e z => ?_⟩
  · rw [find_set hr]
    by_cases q : n = key x
    · subst q
      rw [if_pos rfl]
      exact Go.Maps.has_put_same h.map (by trivial) _
    · rw [if_neg q]
      exact (Go.Maps.has_put_other (fun p => q (by injection p)) _).trans (h.has n)
  · rw [Go.Maps.size_put ht, h.has, h.size, set_len hr]
  · rw [find_set hr] at e
    by_cases q : n = key x
    · rw [if_pos q] at e
      cases e
      subst q
      exact fun z => Go.Maps.atKey_put_same h.map (by trivial) _ _
    · rw [if_neg q] at e
      exact fun z => (Go.Maps.atKey_put_other (fun p => q (by injection p)) _ _).trans (h.hit n y e z)
  · rw [find_set hr] at e
    by_cases q : n = key x
    · rw [if_pos q] at e
      cases e
    · rw [if_neg q] at e
      exact (Go.Maps.atKey_put_other (fun p => q (by injection p)) _ _).trans (h.miss n e z)
theorem tells_del {D : DataW Value} {L : List α} (h : Tells key val D L) (ht : Go.Maps.Tidy D) (hr : Rise key L) (m : List UInt8) : Tells key val (D.del (.string m)) (cutF key L m) := by
  refine ⟨h.map.del _, fun n => ?_, ?_, fun n y e => ?_, fun n e z => ?_⟩
  · rw [find_cut hr]
    by_cases q : n = m
    · subst q
      rw [if_pos rfl]
      exact Go.Maps.has_del_same
    · rw [if_neg q]
      exact (Go.Maps.has_del_other (fun p => q (by injection p))).trans (h.has n)
  · have h1 := Go.Maps.size_del (k := .string m) ht
    have h2 := cut_len hr m
    rw [h.has, h.size] at h1
    omega
  · rw [find_cut hr] at e
    by_cases q : n = m
    · rw [if_pos q] at e
      cases e
    · rw [if_neg q] at e
      exact fun z => (Go.Maps.atKey_del_other (fun p => q (by injection p)) _).trans (h.hit n y e z)
  · rw [find_cut hr] at e
    by_cases q : n = m
    · subst q
      exact Go.Maps.atKey_del_same z
    · rw [if_neg q] at e
      exact (Go.Maps.atKey_del_other (fun p => q (by injection p)) _).trans (h.miss n e z)
end
end Go.Proofs.Ytlhlaadnifkdhaa.Nmd
