/- Files by their names: a map, its elements' bytes: in plain words, and as a thing. No law is proved here. -/
import Derived.Test.YtibnakpefjjoiaaOwn
import Derived.Test.YtibnakpefjjoiaaWShare
import Derived.Test.YtibnakpefjjoiaaWMore
import Derived.Test.YtibnakpefjjoiaaQ0
import Derived.Maps.OwnSet
import Derived.Sort.KeysCollected
namespace Go.Proofs.Ytibnakpefjjoiaa.Fs
open Go.RowKit Go.Proofs.YtibnakpefjjoiaaW.PrintWords Go.Proofs.Ytibnakpefjjoiaa.Q Go.Proofs.Ytibnakpefjjoiaa.Own
set_option linter.unusedVariables false
set_option linter.unusedSimpArgs false

abbrev kB : Kd Int := Kd.int .u8
abbrev SF := S56
def nameL (x : SF) : List UInt8 := x.f0.data.toList
theorem lt_asymm' {a b : List UInt8} (h : a < b) : ¬ b < a := fun q => List.lt_irrefl a (List.lt_trans h q)
theorem lt_tri (a b : List UInt8) : a < b ∨ a = b ∨ b < a := by
  by_cases h1 : a < b
  · exact .inl h1
  · by_cases h2 : b < a
    · exact .inr (.inr h2)
    · exact .inr (.inl (List.le_antisymm (List.not_lt.1 h2) (List.not_lt.1 h1)))
/-- The files, by rising names. -/
def Rise (L : List SF) : Prop := L.Pairwise fun a b => nameL a < nameL b
def findF (L : List SF) (n : List UInt8) : Option SF := L.find? fun x => nameL x == n
def cutF (L : List SF) (n : List UInt8) : List SF := L.filter fun x => nameL x != n
def insF : List SF → SF → List SF
  | [], x => [x]
  | y :: L, x => if nameL x < nameL y then x :: y :: L else y :: insF L x
def setF (L : List SF) (x : SF) : List SF := insF (cutF L (nameL x)) x
theorem ins_perm : ∀ (L : List SF) (x : SF), (insF L x).Perm (x :: L)
  | [], x => List.Perm.refl _
  | y :: L, x => by
    unfold insF
    split
    · exact List.Perm.refl _
    · exact (List.Perm.cons y (ins_perm L x)).trans (List.Perm.swap _ _ _)
theorem cut_mem {L : List SF} {n : List UInt8} {x : SF} : x ∈ cutF L n ↔ x ∈ L ∧ nameL x ≠ n := by
  unfold cutF
  rw [List.mem_filter, bne_iff_ne]
theorem cut_rise {L : List SF} (h : Rise L) (n : List UInt8) : Rise (cutF L n) := List.Pairwise.filter _ h
theorem ins_rise : ∀ {L : List SF} {x : SF}, Rise L → (∀ y ∈ L, nameL y ≠ nameL x) → Rise (insF L x)
  | [], x, _, _ => List.pairwise_singleton _ _
  | y :: L, x, h, hn => by
    obtain ⟨h1, h2⟩ := List.pairwise_cons.1 h
    unfold insF
    split
    · rename_i hlt
      refine List.pairwise_cons.2 ⟨fun z hz => ?_, h⟩
      rcases List.mem_cons.1 hz with rfl | hz
      · exact hlt
      · exact List.lt_trans hlt (h1 z hz)
    · rename_i hlt
      refine List.pairwise_cons.2 ⟨fun z hz => ?_, ins_rise h2 fun z hz => hn z (List.mem_cons_of_mem _ hz)⟩
      rcases List.mem_cons.1 ((ins_perm L x).mem_iff.1 hz) with rfl | hz
      · rcases lt_tri (nameL y) (nameL z) with q | q | q
        · exact q
        · exact absurd q (hn y (List.mem_cons_self ..))
        · exact absurd q hlt
      · exact h1 z hz
theorem set_rise {L : List SF} (h : Rise L) (x : SF) : Rise (setF L x) := ins_rise (cut_rise h _) fun y hy => (cut_mem.1 hy).2
theorem rise_unlike {L : List SF} (h : Rise L) : L.Pairwise fun a b => nameL a ≠ nameL b := h.imp fun {a b} q e => by rw [e] at q; exact List.lt_irrefl _ q
theorem find_mem {L : List SF} {n : List UInt8} {x : SF} (h : findF L n = some x) : x ∈ L ∧ nameL x = n := ⟨List.mem_of_find?_eq_some h, by have := List.find?_some h; simpa using this⟩
theorem find_none {L : List SF} {n : List UInt8} : findF L n = none ↔ ∀ x ∈ L, nameL x ≠ n := by
  unfold findF
  rw [List.find?_eq_none]
  simp
theorem find_of {L : List SF} (h : L.Pairwise fun a b => nameL a ≠ nameL b) {x : SF} (hx : x ∈ L) : findF L (nameL x) = some x := by
  induction L with
  | nil => exact absurd hx List.not_mem_nil
  | cons y L ih =>
    obtain ⟨h1, h2⟩ := List.pairwise_cons.1 h
    unfold findF
    rw [List.find?_cons]
    rcases List.mem_cons.1 hx with rfl | hx
    · simp
    · have : (nameL y == nameL x) = false := beq_eq_false_iff_ne.2 (h1 x hx)
      rw [this]
      exact ih h2 hx
theorem find_set {L : List SF} (h : Rise L) (x : SF) (n : List UInt8) : findF (setF L x) n = if n = nameL x then some x else findF L n := by
  have hr := rise_unlike (set_rise h x)
  by_cases e : n = nameL x
  · rw [if_pos e, e]
    exact find_of hr ((ins_perm _ x).mem_iff.2 (List.mem_cons_self ..))
  · rw [if_neg e]
    cases hf : findF L n with
    | none =>
      rw [find_none]
      intro y hy q
      rcases List.mem_cons.1 ((ins_perm _ x).mem_iff.1 hy) with rfl | hy
      · exact e q.symm
      · exact find_none.1 hf y (cut_mem.1 hy).1 q
    | some y =>
      obtain ⟨h1, h2⟩ := find_mem hf
      rw [← h2]
      exact find_of hr ((ins_perm _ x).mem_iff.2 (List.mem_cons_of_mem _ (cut_mem.2 ⟨h1, fun q => e (h2.symm.trans q)⟩)))
theorem find_cut {L : List SF} (h : Rise L) (m n : List UInt8) : findF (cutF L m) n = if n = m then none else findF L n := by
  by_cases e : n = m
  · rw [if_pos e, find_none]
    intro y hy q
    exact (cut_mem.1 hy).2 (q.trans e)
  · rw [if_neg e]
    cases hf : findF L n with
    | none => exact find_none.2 fun y hy => find_none.1 hf y (cut_mem.1 hy).1
    | some y =>
      obtain ⟨h1, h2⟩ := find_mem hf
      rw [← h2]
      exact find_of (rise_unlike (cut_rise h m)) (cut_mem.2 ⟨h1, fun q => e (h2.symm.trans q)⟩)
theorem cut_len {L : List SF} (h : Rise L) (n : List UInt8) : (cutF L n).length + (if (findF L n).isSome = true then 1 else 0) = L.length := by
  have key : ∀ {L : List SF}, (L.Pairwise fun a b => nameL a ≠ nameL b) → (cutF L n).length + (if (findF L n).isSome = true then 1 else 0) = L.length := by
    intro L
    induction L with
    | nil => intro _; rfl
    | cons y L ih =>
      intro h
      obtain ⟨h1, h2⟩ := List.pairwise_cons.1 h
      have hi := ih h2
      unfold cutF findF at hi ⊢
      rw [List.filter_cons, List.find?_cons]
      by_cases e : nameL y = n
      · have e1 : (nameL y == n) = true := beq_iff_eq.2 e
        have e2 : (nameL y != n) = false := by rw [bne, e1]; rfl
        rw [e1, e2]
        have hf : L.find? (fun x => nameL x == n) = none := by
          rw [List.find?_eq_none]
          intro z hz q
          exact h1 z hz (e.trans (beq_iff_eq.1 q).symm)
        rw [hf] at hi
        simp at hi ⊢
        exact hi
      · have e1 : (nameL y == n) = false := beq_eq_false_iff_ne.2 e
        have e2 : (nameL y != n) = true := by rw [bne, e1]; rfl
        rw [e1, e2]
        simp at hi ⊢
        omega
  exact key (rise_unlike h)
theorem set_len {L : List SF} (h : Rise L) (x : SF) : (setF L x).length = if (findF L (nameL x)).isSome = true then L.length else L.length + 1 := by
  have h1 := cut_len h (nameL x)
  have h2 := (ins_perm (cutF L (nameL x)) x).length_eq
  unfold setF
  rw [h2, List.length_cons]
  split
  · rename_i e
    rw [if_pos e] at h1
    omega
  · rename_i e
    rw [if_neg e] at h1
    omega
/-- How an element of the map reads: as it stands. -/
def RV (v : Value) : Option (DataW Value × List MemPlace) := some (.held v, [])
theorem lawK : Go.Maps.Keyed Try.prog 9 := Go.Maps.string_keyed Try.underlying9
abbrev fv (A : Option Addr) (x : SF) (c : Nat) : Value := .agg #[.slice A x.f1.length c, .int .i64 x.f2]
/-- A map tells files: each name's bytes can be read, in blocks of ok. -/
structure FilesAt (w : World) (ok : Nat → Prop) (D : DataW Value) (L : List SF) : Prop where
  map : Go.Maps.IsMap D
  has : ∀ n, Go.Maps.has D (.string n) = (findF L n).isSome
  size : Go.Maps.size D = L.length
  hit : ∀ n x, findF L n = some x → ∃ A c, (∀ z, D.atKey (.string n) z = .held (fv A x c)) ∧ x.f1.length ≤ c ∧ Kd.F kB w ok A x.f1.length x.f1
  miss : ∀ n, findF L n = none → ∀ z, D.atKey (.string n) z = z
theorem FilesAt.step {w w' : World} {ok ok' : Nat → Prop} {D : DataW Value} {L : List SF} (h : FilesAt w ok D L) (hm : ∀ k, ok k → k < w.heap.size → w'.heap[k]? = w.heap[k]?) (hok : ∀ k, ok k → ok' k) : FilesAt w' ok' D L :=
  ⟨h.map, h.has, h.size, fun n x e => by obtain ⟨A, c, a1, a2, a3⟩ := h.hit n x e; exact ⟨A, c, a1, a2, Kd.F_mono (Kd.F_step a3 hm) hok⟩, h.miss⟩
theorem files_start (w : World) (ok : Nat → Prop) : FilesAt w ok (.map []) [] := ⟨Go.Maps.isMap_empty, fun n => rfl, rfl, fun n x e => (by cases e), fun n _ z => rfl⟩
theorem files_put {w : World} {ok : Nat → Prop} {D : DataW Value} {L : List SF} (h : FilesAt w ok D L) (ht : Go.Maps.Tidy D) (hr : Rise L) (x : SF) {A : Option Addr} {c : Nat} (hc : x.f1.length ≤ c) (hF : Kd.F kB w ok A x.f1.length x.f1) : FilesAt w ok (D.put (.string (nameL x)) (.held (fv A x c))) (setF L x) := by
  refine ⟨h.map.put _ _, fun n => ?_, ?_, fun n y e => ?_, fun n e z => ?_⟩
  · rw [find_set hr]
    by_cases q : n = nameL x
    · subst q
      rw [if_pos rfl]
      exact Go.Maps.has_put_same h.map (by trivial) _
    · rw [if_neg q]
      exact (Go.Maps.has_put_other (fun p => q (by injection p)) _).trans (h.has n)
  · rw [Go.Maps.size_put ht, h.has, h.size, set_len hr]
  · rw [find_set hr] at e
    by_cases q : n = nameL x
    · rw [if_pos q] at e
      cases e
      subst q
      exact ⟨A, c, fun z => Go.Maps.atKey_put_same h.map (by trivial) _ _, hc, hF⟩
    · rw [if_neg q] at e
      obtain ⟨A', c', a1, a2, a3⟩ := h.hit n y e
      exact ⟨A', c', fun z => (Go.Maps.atKey_put_other (fun p => q (by injection p)) _ _).trans (a1 z), a2, a3⟩
  · rw [find_set hr] at e
    by_cases q : n = nameL x
    · rw [if_pos q] at e
      cases e
    · rw [if_neg q] at e
      exact (Go.Maps.atKey_put_other (fun p => q (by injection p)) _ _).trans (h.miss n e z)
theorem files_del {w : World} {ok : Nat → Prop} {D : DataW Value} {L : List SF} (h : FilesAt w ok D L) (ht : Go.Maps.Tidy D) (hr : Rise L) (m : List UInt8) : FilesAt w ok (D.del (.string m)) (cutF L m) := by
  refine ⟨h.map.del _, fun n => ?_, ?_, fun n y e => ?_, fun n e z => ?_⟩
  · rw [find_cut hr]
    by_cases q : n = m
    · subst q
      rw [if_pos rfl]
      exact Go.Maps.has_del_same
    · rw [if_neg q]
      exact (Go.Maps.has_del_other (fun p => q (by injection p))).trans (h.has n)
  · have h1 := Go.Maps.size_del (k := .string m) ht
    have h2 := cut_len hr m
    rw [h.has, h.size] at h1
    omega
  · rw [find_cut hr] at e
    by_cases q : n = m
    · rw [if_pos q] at e
      cases e
    · rw [if_neg q] at e
      obtain ⟨A', c', a1, a2, a3⟩ := h.hit n y e
      exact ⟨A', c', fun z => (Go.Maps.atKey_del_other (fun p => q (by injection p)) _).trans (a1 z), a2, a3⟩
  · rw [find_cut hr] at e
    by_cases q : n = m
    · subst q
      exact Go.Maps.atKey_del_same z
    · rw [if_neg q] at e
      exact (Go.Maps.atKey_del_other (fun p => q (by injection p)) _).trans (h.miss n e z)
abbrev ptr (p : Nat) : Value := .pointer (some ⟨p, 0, none⟩)
/-- A file that is open: its box, what it is. -/
structure Op where
  b : Nat
  x : SF
  A : Option Addr
  c : Nat
/-- The blocks in which files' bytes lie. -/
def okk (F : Nat → Prop) (p mb : Nat) (o : Option Op) (k : Nat) : Prop := F k ∧ k ≠ p ∧ k ≠ mb ∧ ∀ q, o = some q → k ≠ q.b
structure OpAt (w : World) (F : Nat → Prop) (p mb : Nat) (o : Option Op) (q : Op) : Prop where
  mem : F q.b
  nep : q.b ≠ p
  nem : q.b ≠ mb
  box : w.heap[q.b]? = some (.cells #[.slice q.A q.x.f1.length q.c, .int .i64 q.x.f2] 67 (0, 0))
  le : q.x.f1.length ≤ q.c
  bytes : Kd.F kB w (okk F p mb o) q.A q.x.f1.length q.x.f1
/-- A store of files: the pair, the map, the files' bytes; a file that is open. -/
def storeT (p : Nat) (left acts : Int) (L : List SF) (o : Option Op) : Th where
  on w F := F p ∧ ∃ mb D, F mb ∧ mb ≠ p ∧ w.heap[p]? = some (.cells #[.map (some mb), .int .i64 left, .int .i64 acts] 62 (0, 0)) ∧ w.ownsMap Try.prog 9 RV mb L.length D ∧ FilesAt w (okk F p mb o) D L ∧ Rise L ∧ ∀ q, o = some q → OpAt w F p mb o q
  loc := by
    rintro w w' F ⟨h0, mb, D, h1, h2, h3, ⟨es, clock, hb, r⟩, h5, h6, h7⟩ hm
    exact ⟨h0, mb, D, h1, h2, (hm p h0).trans h3, ⟨es, clock, (hm mb h1).trans hb, r⟩, h5.step (fun k hk _ => hm k hk.1) (fun k hk => hk), h6, fun q e => ⟨(h7 q e).mem, (h7 q e).nep, (h7 q e).nem, (hm _ (h7 q e).mem).trans (h7 q e).box, (h7 q e).le, Kd.F_step (h7 q e).bytes (fun k hk _ => hm k hk.1)⟩⟩
/-- A bound that is the size itself. -/
theorem own_tight {H : Type} {P : Program} {k : TypeId} {R : Value → Option (DataW H × List MemPlace)} {w : World} {b n : Nat} {D : DataW H} (h : w.ownsMap P k R b n D) : w.ownsMap P k R b (Go.Maps.size D) D := by
  obtain ⟨es, clock, hb, F, _, rfl⟩ := h
  refine ⟨es, clock, hb, F, ?_, rfl⟩
  simp [Go.Maps.size, length_sorted]
end Go.Proofs.Ytibnakpefjjoiaa.Fs
