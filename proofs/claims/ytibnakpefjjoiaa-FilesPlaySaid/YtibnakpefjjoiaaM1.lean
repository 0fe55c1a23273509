/- Files by their names: a map, its elements' bytes: in plain words, and as a thing. No law is proved here. (with what is built on it) -/
import Derived.Test.YtibnakpefjjoiaaOwn
import Derived.Test.YtibnakpefjjoiaaWShare
import Derived.Test.YtibnakpefjjoiaaWMore
import Derived.Test.YtibnakpefjjoiaaQ0
import Derived.Maps.OwnSet
import Derived.Sort.KeysCollected
import Derived.Test.YtibnakpefjjoiaaWLast
import Derived.Deep.RegionHeld3
import Derived.Deep.DrawnRows
import Derived.BigRegion
import Derived.BigQuiet
import Derived.Scope
import Derived.Test.YtibnakpefjjoiaaQ1
import Derived.ArgAppend
import Derived.Deep.AppendSrc
import Derived.Deep.Upon
namespace Go.Proofs.Ytibnakpefjjoiaa.Fs
open Go.RowKit Go.Proofs.YtibnakpefjjoiaaW.PrintWords Go.Proofs.Ytibnakpefjjoiaa.Q Go.Proofs.Ytibnakpefjjoiaa.Own
set_option linter.unusedVariables false
set_option linter.unusedSimpArgs false

abbrev kB : Kd Int := Kd.int .u8
abbrev SF := S56
def nameL (x : SF) : List UInt8 := x.f0.data.toList
theorem lt_asymm' {a b : List UInt8} (h : a < b) : ¬ b < a := fun q => List.lt_irrefl a (List.lt_trans h q)
theorem lt_tri (a b : List UInt8) : a < b ∨ a = b ∨ b < a := by
  by_cases h1 : a < b
  · exact .inl h1
  · by_cases h2 : b < a
    · exact .inr (.inr h2)
    · exact .inr (.inl (List.le_antisymm (List.not_lt.1 h2) (List.not_lt.1 h1)))
/-- The files, by rising names. -/
def Rise (L : List SF) : Prop := L.Pairwise fun a b => nameL a < nameL b
def findF (L : List SF) (n : List UInt8) : Option SF := L.find? fun x => nameL x == n
def cutF (L : List SF) (n : List UInt8) : List SF := L.filter fun x => nameL x != n
def insF : List SF → SF → List SF
  | [], x => [x]
  | y :: L, x => if nameL x < nameL y then x :: y :: L else y :: insF L x
def setF (L : List SF) (x : SF) : List SF := insF (cutF L (nameL x)) x
theorem ins_perm : ∀ (L : List SF) (x : SF), (insF L x).Perm (x :: L)
  | [], x => List.Perm.refl _
  | y :: L, x => by
    unfold insF
    split
    · exact List.Perm.refl _
    · exact (List.Perm.cons y (ins_perm L x)).trans (List.Perm.swap _ _ _)
theorem cut_mem {L : List SF} {n : List UInt8} {x : SF} : x ∈ cutF L n ↔ x ∈ L ∧ nameL x ≠ n := by
  unfold cutF
  rw [List.mem_filter, bne_iff_ne]
theorem cut_rise {L : List SF} (h : Rise L) (n : List UInt8) : Rise (cutF L n) := List.Pairwise.filter _ h
theorem ins_rise : ∀ {L : List SF} {x : SF}, Rise L → (∀ y ∈ L, nameL y ≠ nameL x) → Rise (insF L x)
  | [], x, _, _ => List.pairwise_singleton _ _
  | y :: L, x, h, hn => by
    obtain ⟨h1, h2⟩ := List.pairwise_cons.1 h
    unfold insF
    split
    · rename_i hlt
      refine List.pairwise_cons.2 ⟨fun z hz => ?_, h⟩
      rcases List.mem_cons.1 hz with rfl | hz
      · exact hlt
      · exact List.lt_trans hlt (h1 z hz)
    · rename_i hlt
      refine List.pairwise_cons.2 ⟨fun z hz => ?_, ins_rise h2 fun z hz => hn z (List.mem_cons_of_mem _ hz)⟩
      rcases List.mem_cons.1 ((ins_perm L x).mem_iff.1 hz) with rfl | hz
      · rcases lt_tri (nameL y) (nameL z) with q | q | q
        · exact q
        · exact absurd q (hn y (List.mem_cons_self ..))
        · exact absurd q hlt
      · exact h1 z hz
theorem set_rise {L : List SF} (h : Rise L) (x : SF) : Rise (setF L x) := ins_rise (cut_rise h _) fun y hy => (cut_mem.1 hy).2
theorem rise_unlike {L : List SF} (h : Rise L) : L.Pairwise fun a b => nameL a ≠ nameL b := h.imp fun {a b} q e => by rw [e] at q; exact List.lt_irrefl _ q
theorem find_mem {L : List SF} {n : List UInt8} {x : SF} (h : findF L n = some x) : x ∈ L ∧ nameL x = n := ⟨List.mem_of_find?_eq_some h, by have := List.find?_some h; simpa using this⟩
theorem find_none {L : List SF} {n : List UInt8} : findF L n = none ↔ ∀ x ∈ L, nameL x ≠ n := by
  unfold findF
  rw [List.find?_eq_none]
  simp
theorem find_of {L : List SF} (h : L.Pairwise fun a b => nameL a ≠ nameL b) {x : SF} (hx : x ∈ L) : findF L (nameL x) = some x := by
  induction L with
  | nil => exact absurd hx List.not_mem_nil
  | cons y L ih =>
    obtain ⟨h1, h2⟩ := List.pairwise_cons.1 h
    unfold findF
    rw [List.find?_cons]
    rcases List.mem_cons.1 hx with rfl | hx
    · simp
    · have : (nameL y == nameL x) = false := beq_eq_false_iff_ne.2 (h1 x hx)
      rw [this]
      exact ih h2 hx
theorem find_set {L : List SF} (h : Rise L) (x : SF) (n : List UInt8) : findF (setF L x) n = if n = nameL x then some x else findF L n := by
  have hr := rise_unlike (set_rise h x)
  by_cases e : n = nameL x
  · rw [if_pos e, e]
    exact find_of hr ((ins_perm _ x).mem_iff.2 (List.mem_cons_self ..))
  · rw [if_neg e]
    cases hf : findF L n with
    | none =>
      rw [find_none]
      intro y hy q
      rcases List.mem_cons.1 ((ins_perm _ x).mem_iff.1 hy) with rfl | hy
      · exact e q.symm
      · exact find_none.1 hf y (cut_mem.1 hy).1 q
    | some y =>
      obtain ⟨h1, h2⟩ := find_mem hf
      rw [← h2]
      exact find_of hr ((ins_perm _ x).mem_iff.2 (List.mem_cons_of_mem _ (cut_mem.2 ⟨h1, fun q => e (h2.symm.trans q)⟩)))
theorem find_cut {L : List SF} (h : Rise L) (m n : List UInt8) : findF (cutF L m) n = if n = m then none else findF L n := by
  by_cases e : n = m
  · rw [if_pos e, find_none]
    intro y hy q
    exact (cut_mem.1 hy).2 (q.trans e)
  · rw [if_neg e]
    cases hf : findF L n with
    | none => exact find_none.2 fun y hy => find_none.1 hf y (cut_mem.1 hy).1
    | some y =>
      obtain ⟨h1, h2⟩ := find_mem hf
      rw [← h2]
      exact find_of (rise_unlike (cut_rise h m)) (cut_mem.2 ⟨h1, fun q => e (h2.symm.trans q)⟩)
theorem cut_len {L : List SF} (h : Rise L) (n : List UInt8) : (cutF L n).length + (if (findF L n).isSome = true then 1 else 0) = L.length := by
  have key : ∀ {L : List SF}, (L.Pairwise fun a b => nameL a ≠ nameL b) → (cutF L n).length + (if (findF L n).isSome = true then 1 else 0) = L.length := by
    intro L
    induction L with
    | nil => intro _; rfl
    | cons y L ih =>
      intro h
      obtain ⟨h1, h2⟩ := List.pairwise_cons.1 h
      have hi := ih h2
      unfold cutF findF at hi ⊢
      rw [List.filter_cons, List.find?_cons]
      by_cases e : nameL y = n
      · have e1 : (nameL y == n) = true := beq_iff_eq.2 e
        have e2 : (nameL y != n) = false := by rw [bne, e1]; rfl
        rw [e1, e2]
        have hf : L.find? (fun x => nameL x == n) = none := by
          rw [List.find?_eq_none]
          intro z hz q
          exact h1 z hz (e.trans (beq_iff_eq.1 q).symm)
        rw [hf] at hi
        simp at hi ⊢
        exact hi
      · have e1 : (nameL y == n) = false := beq_eq_false_iff_ne.2 e
        have e2 : (nameL y != n) = true := by rw [bne, e1]; rfl
        rw [e1, e2]
        simp at hi ⊢
        omega
  exact key (rise_unlike h)
theorem set_len {L : List SF} (h : Rise L) (x : SF) : (setF L x).length = if (findF L (nameL x)).isSome = true then L.length else L.length + 1 := by
  have h1 := cut_len h (nameL x)
  have h2 := (ins_perm (cutF L (nameL x)) x).length_eq
  unfold setF
  rw [h2, List.length_cons]
  split
  · rename_i e
    rw [if_pos e] at h1
    omega
  · rename_i e
    rw [if_neg e] at h1
    omega
/-- How an element of the map reads: as it stands. -/
def RV (v : Value) : Option (DataW Value × List MemPlace) := some (.held v, [])
theorem lawK : Go.Maps.Keyed Try.prog 9 := Go.Maps.string_keyed Try.underlying9
abbrev fv (A : Option Addr) (x : SF) (c : Nat) : Value := .agg #[.slice A x.f1.length c, .int .i64 x.f2]
/-- A map tells files: each name's bytes can be read, in blocks of ok. -/
structure FilesAt (w : World) (ok : Nat → Prop) (D : DataW Value) (L : List SF) : Prop where
  map : Go.Maps.IsMap D
  has : ∀ n, Go.Maps.has D (.string n) = (findF L n).isSome
  size : Go.Maps.size D = L.length
  hit : ∀ n x, findF L n = some x → ∃ A c, (∀ z, D.atKey (.string n) z = .held (fv A x c)) ∧ x.f1.length ≤ c ∧ Kd.F kB w ok A x.f1.length x.f1
  miss : ∀ n, findF L n = none → ∀ z, D.atKey (.string n) z = z
theorem FilesAt.step {w w' : World} {ok ok' : Nat → Prop} {D : DataW Value} {L : List SF} (h : FilesAt w ok D L) (hm : ∀ k, ok k → k < w.heap.size → w'.heap[k]? = w.heap[k]?) (hok : ∀ k, ok k → ok' k) : FilesAt w' ok' D L :=
  ⟨h.map, h.has, h.size, fun n x e => by obtain ⟨A, c, a1, a2, a3⟩ := h.hit n x e; exact ⟨A, c, a1, a2, Kd.F_mono (Kd.F_step a3 hm) hok⟩, h.miss⟩
theorem files_start (w : World) (ok : Nat → Prop) : FilesAt w ok (.map []) [] := ⟨Go.Maps.isMap_empty, fun n => rfl, rfl, fun n x e => (by cases e), fun n _ z => rfl⟩
theorem files_put {w : World} {ok : Nat → Prop} {D : DataW Value} {L : List SF} (h : FilesAt w ok D L) (ht : Go.Maps.Tidy D) (hr : Rise L) (x : SF) {A : Option Addr} {c : Nat} (hc : x.f1.length ≤ c) (hF : Kd.F kB w ok A x.f1.length x.f1) : FilesAt w ok (D.put (.string (nameL x)) (.held (fv A x c))) (setF L x) := by
  refine ⟨h.map.put _ _, fun n => ?_, ?_, fun n y e => ?_, fun n e z => ?_⟩
  · rw [find_set hr]
    by_cases q : n = nameL x
    · subst q
      rw [if_pos rfl]
      exact Go.Maps.has_put_same h.map (by trivial) _
    · rw [if_neg q]
      exact (Go.Maps.has_put_other (fun p => q (by injection p)) _).trans (h.has n)
  · rw [Go.Maps.size_put ht, h.has, h.size, set_len hr]
  · rw [find_set hr] at e
    by_cases q : n = nameL x
    · rw [if_pos q] at e
      cases e
      subst q
      exact ⟨A, c, fun z => Go.Maps.atKey_put_same h.map (by trivial) _ _, hc, hF⟩
    · rw [if_neg q] at e
      obtain ⟨A', c', a1, a2, a3⟩ := h.hit n y e
      exact ⟨A', c', fun z => (Go.Maps.atKey_put_other (fun p => q (by injection p)) _ _).trans (a1 z), a2, a3⟩
  · rw [find_set hr] at e
    by_cases q : n = nameL x
    · rw [if_pos q] at e
      cases e
    · rw [if_neg q] at e
      exact (Go.Maps.atKey_put_other (fun p => q (by injection p)) _ _).trans (h.miss n e z)
theorem files_del {w : World} {ok : Nat → Prop} {D : DataW Value} {L : List SF} (h : FilesAt w ok D L) (ht : Go.Maps.Tidy D) (hr : Rise L) (m : List UInt8) : FilesAt w ok (D.del (.string m)) (cutF L m) := by
  refine ⟨h.map.del _, fun n => ?_, ?_, fun n y e => ?_, fun n e z => ?_⟩
  · rw [find_cut hr]
    by_cases q : n = m
    · subst q
      rw [if_pos rfl]
      exact Go.Maps.has_del_same
    · rw [if_neg q]
      exact (Go.Maps.has_del_other (fun p => q (by injection p))).trans (h.has n)
  · have h1 := Go.Maps.size_del (k := .string m) ht
    have h2 := cut_len hr m
    rw [h.has, h.size] at h1
    omega
  · rw [find_cut hr] at e
    by_cases q : n = m
    · rw [if_pos q] at e
      cases e
    · rw [if_neg q] at e
      obtain ⟨A', c', a1, a2, a3⟩ := h.hit n y e
      exact ⟨A', c', fun z => (Go.Maps.atKey_del_other (fun p => q (by injection p)) _).trans (a1 z), a2, a3⟩
  · rw [find_cut hr] at e
    by_cases q : n = m
    · subst q
      exact Go.Maps.atKey_del_same z
    · rw [if_neg q] at e
      exact (Go.Maps.atKey_del_other (fun p => q (by injection p)) _).trans (h.miss n e z)
abbrev ptr (p : Nat) : Value := .pointer (some ⟨p, 0, none⟩)
/-- A file that is open: its box, what it is. -/
structure Op where
  b : Nat
  x : SF
  A : Option Addr
  c : Nat
/-- The blocks in which files' bytes lie. -/
def okk (F : Nat → Prop) (p mb : Nat) (o : Option Op) (k : Nat) : Prop := F k ∧ k ≠ p ∧ k ≠ mb ∧ ∀ q, o = some q → k ≠ q.b
structure OpAt (w : World) (F : Nat → Prop) (p mb : Nat) (o : Option Op) (q : Op) : Prop where
  mem : F q.b
  nep : q.b ≠ p
  nem : q.b ≠ mb
  box : w.heap[q.b]? = some (.cells #[.slice q.A q.x.f1.length q.c, .int .i64 q.x.f2] 67 (0, 0))
  le : q.x.f1.length ≤ q.c
  bytes : Kd.F kB w (okk F p mb o) q.A q.x.f1.length q.x.f1
/-- A store of files: the pair, the map, the files' bytes; a file that is open. -/
def storeT (p : Nat) (left acts : Int) (L : List SF) (o : Option Op) : Th where
  on w F := F p ∧ ∃ mb D, F mb ∧ mb ≠ p ∧ w.heap[p]? = some (.cells #[.map (some mb), .int .i64 left, .int .i64 acts] 62 (0, 0)) ∧ w.ownsMap Try.prog 9 RV mb L.length D ∧ FilesAt w (okk F p mb o) D L ∧ Rise L ∧ ∀ q, o = some q → OpAt w F p mb o q
  loc := by
    rintro w w' F ⟨h0, mb, D, h1, h2, h3, ⟨es, clock, hb, r⟩, h5, h6, h7⟩ hm
    exact ⟨h0, mb, D, h1, h2, (hm p h0).trans h3, ⟨es, clock, (hm mb h1).trans hb, r⟩, h5.step (fun k hk _ => hm k hk.1) (fun k hk => hk), h6, fun q e => ⟨(h7 q e).mem, (h7 q e).nep, (h7 q e).nem, (hm _ (h7 q e).mem).trans (h7 q e).box, (h7 q e).le, Kd.F_step (h7 q e).bytes (fun k hk _ => hm k hk.1)⟩⟩
/-- A bound that is the size itself. -/
theorem own_tight {H : Type} {P : Program} {k : TypeId} {R : Value → Option (DataW H × List MemPlace)} {w : World} {b n : Nat} {D : DataW H} (h : w.ownsMap P k R b n D) : w.ownsMap P k R b (Go.Maps.size D) D := by
  obtain ⟨es, clock, hb, F, _, rfl⟩ := h
  refine ⟨es, clock, hb, F, ?_, rfl⟩
  simp [Go.Maps.size, length_sorted]
end Go.Proofs.Ytibnakpefjjoiaa.Fs
namespace Go.Proofs.Ytibnakpefjjoiaa.Fs
open Go.RowKit Go.Proofs.YtibnakpefjjoiaaW.PrintWords Go.Proofs.YtibnakpefjjoiaaW.PrintLast Go.Proofs.Ytibnakpefjjoiaa.Q Go.Proofs.Ytibnakpefjjoiaa.Own
set_option linter.unusedVariables false
set_option linter.unusedSimpArgs false
attribute [local go_sem ↓] Go.wp_at_zero Go.wp_at_succ

theorem cell_al {W : World} {a : Addr} {v : Value} (o : Obj) (h : W.cell? a = some v) : (W.alloc o).cell? a = some v := (World.cell?_alloc_some W a o (by rw [h]; rfl)).trans h
theorem store_cells {B : Nat} {w : World} {p : Nat} {left acts : Int} {L : List SF} {o : Option Op} {Ts : List Th} (h : Has B w (storeT p left acts L o :: Ts)) :
    ∃ mb, w.cell? ⟨p, 0, none⟩ = some (.map (some mb)) ∧ w.cell? ⟨p, 1, none⟩ = some (.int .i64 left) ∧ w.cell? ⟨p, 2, none⟩ = some (.int .i64 acts) ∧ (∀ i, w.frozen? ⟨p, i, none⟩ = false) ∧ mb ≠ p ∧ p < w.heap.size := by
  obtain ⟨F, ⟨hF, mb, D, h1, h2, h3, h4, h5, h6, h7⟩, hFb, -⟩ := h.head
  exact ⟨mb, by rw [blk_cell h3]; rfl, by rw [blk_cell h3]; rfl, by rw [blk_cell h3]; rfl, fun i => blk_frozen h3 i, h2, (hFb p hF).2⟩
/-- The store's numbers are turned. -/
theorem store_set {B : Nat} {w : World} {p : Nat} {left acts : Int} {L : List SF} {o : Option Op} {Ts : List Th} (h : Has B w (storeT p left acts L o :: Ts)) (x : Int) :
    (Has B (w.setCell ⟨p, 1, none⟩ (.int .i64 x)) (storeT p x acts L o :: Ts) ∧ Below B w (w.setCell ⟨p, 1, none⟩ (.int .i64 x))) ∧ (Has B (w.setCell ⟨p, 2, none⟩ (.int .i64 x)) (storeT p left x L o :: Ts) ∧ Below B w (w.setCell ⟨p, 2, none⟩ (.int .i64 x))) := by
  obtain ⟨F, ⟨hF, mb, D, h1, h2, h3, h4, h5, h6, h7⟩, hFb, put⟩ := h.head
  have key : ∀ (i : Nat) (u : Value) (lf ac : Int), (#[.map (some mb), .int .i64 left, .int .i64 acts] : Array Value).setIfInBounds i u = #[.map (some mb), .int .i64 lf, .int .i64 ac] → Has B (w.setCell ⟨p, i, none⟩ u) (storeT p lf ac L o :: Ts) ∧ Below B w (w.setCell ⟨p, i, none⟩ u) := by
    intro i u lf ac e
    have hset := blk_set h3 i u
    rw [e] at hset
    refine put _ F _ ((KeepF.refl F w).setCell (.inl hF) u) ⟨hF, mb, D, h1, h2, hset, h4.setCell h2 u, h5.step (fun k hk _ => Below.heap_setCell w ⟨p, i, none⟩ u k hk.2.1) (fun k hk => hk), h6, fun q e => ⟨(h7 q e).mem, (h7 q e).nep, (h7 q e).nem, (Below.heap_setCell w ⟨p, i, none⟩ u _ (h7 q e).nep).trans (h7 q e).box, (h7 q e).le, Kd.F_step (h7 q e).bytes (fun k hk _ => Below.heap_setCell w ⟨p, i, none⟩ u k hk.2.1)⟩⟩ (fun k hk => ⟨.inl hk, by have := (hFb k hk).2; simpa using this⟩)
  exact ⟨key 1 _ x acts rfl, key 2 _ left x rfl⟩
set_option maxRecDepth 100000 in
theorem none_calls {B : Nat} {w : World} {p : Nat} {left acts : Int} {L : List SF} {o : Option Op} {Ts : List Th} (h : Has B w (storeT p left acts L o :: Ts)) :
    Calls Try.prog 33 #[ptr p] w fun e w' => e = .returned (.bool false) ∧ w = w' := by
  obtain ⟨mb, c0, c1, c2, cf, hne, hlt⟩ := store_cells h
  have huf : ∀ W : World, (binOp .eql 60 (.map (some mb)) (.map none)).run Try.prog W = .ok (.bool false) W := fun W => by
    first
    | kernel_rfl
    | rfl
  clear h
  go_enter Try.func33, Try.ntmps33
  go_wp2
  go_ret
  exact ⟨rfl, rfl⟩
def refuseE (left : Int) : Int := if left = 0 then 30 else 0
set_option maxRecDepth 100000 in
theorem refuse_calls {B : Nat} {w : World} {p : Nat} {left acts : Int} {L : List SF} {o : Option Op} {Ts : List Th} (h : Has B w (storeT p left acts L o :: Ts)) :
    Calls Try.prog 30 #[ptr p] w fun e w' => e = .returned (.int .i64 (refuseE left)) ∧ w = w' := by
  have HN := Aside0.mk (none_calls h)
  obtain ⟨mb, c0, c1, c2, cf, hne, hlt⟩ := store_cells h
  clear h
  by_cases hl : left = 0
  · have e : refuseE left = 30 := if_pos hl
    rw [e]
    subst hl
    clear e
    go_enter Try.func30, Try.ntmps30
    go_wp2_with fail
    refine HN.out.mono ?_
    rintro e w1 ⟨rfl, rfl⟩
    go_wp2_with fail
    go_ret
    exact ⟨rfl, rfl⟩
  · have e : refuseE left = 0 := if_neg hl
    rw [e]
    have e1 : (left == 0) = false := beq_eq_false_iff_ne.2 hl
    clear e
    go_enter Try.func30, Try.ntmps30
    go_wp2_with fail
    refine HN.out.mono ?_
    rintro e w1 ⟨rfl, rfl⟩
    go_wp2_with fail
    go_ret
    exact ⟨rfl, rfl⟩
def leftF (left : Int) : Int := if left > 0 then left - 1 else left
def ActPost (B : Nat) (w : World) (p : Nat) (left acts : Int) (L : List SF) (o : Option Op) (Ts : List Th) (r : Value) (e : Ending) (w' : World) : Prop := e = .returned r ∧ Has B w' (storeT p left acts L o :: Ts) ∧ Below B w w'
set_option maxRecDepth 100000 in
theorem act_calls {B : Nat} {w : World} {p : Nat} {left acts : Int} {L : List SF} {o : Option Op} {Ts : List Th} (h : Has B w (storeT p left acts L o :: Ts)) (ha : 0 ≤ acts) (hb : acts < 1000000) (hw : -1 ≤ left) (hw2 : left ≤ 9223372036854775807) :
    Calls Try.prog 32 #[ptr p] w (ActPost B w p (leftF left) (acts + 1) L o Ts (.int .i64 0)) := by
  obtain ⟨mb, c0, c1, c2, cf, hne, hlt⟩ := store_cells h
  obtain ⟨-, hA, hB⟩ := store_set h (acts + 1)
  have f2 := cf 2
  obtain ⟨mb2, d0, d1, d2, df, -, -⟩ := store_cells hA
  have g1 := df 1
  by_cases hl : left > 0
  · have e : leftF left = left - 1 := if_pos hl
    rw [e]
    obtain ⟨⟨hA2, hB2⟩, -⟩ := store_set hA (left - 1)
    have HA2 := Aside0.mk hA2
    have HB2 := Aside0.mk (hB.trans hB2)
    have e1 : decide (left > 0) = true := decide_eq_true hl
    have ew : wrap64 (acts + 1) = acts + 1 := by unfold wrap64; omega
    have ew2 : wrap64 (left - 1) = left - 1 := by unfold wrap64; omega
    clear h hA hB hA2 hB2 e cf df
    go_enter Try.func32, Try.ntmps32
    go_wp2_with fail
    go_ret
    exact ⟨rfl, HA2.out, HB2.out⟩
  · have e : leftF left = left := if_neg hl
    rw [e]
    have HA2 := Aside0.mk hA
    have HB2 := Aside0.mk hB
    have e1 : decide (left > 0) = false := decide_eq_false hl
    have ew : wrap64 (acts + 1) = acts + 1 := by unfold wrap64; omega
    clear h hA hB e cf df
    go_enter Try.func32, Try.ntmps32
    go_wp2_with fail
    go_ret
    exact ⟨rfl, HA2.out, HB2.out⟩
end Go.Proofs.Ytibnakpefjjoiaa.Fs
namespace Go.Proofs.Ytibnakpefjjoiaa.Fs
open Go.RowKit Go.Proofs.YtibnakpefjjoiaaW.PrintWords Go.Proofs.YtibnakpefjjoiaaW.PrintLast Go.Proofs.Ytibnakpefjjoiaa.Q Go.Proofs.Ytibnakpefjjoiaa.Own
set_option linter.unusedVariables false
set_option linter.unusedSimpArgs false

def zF : SF := ⟨⟨#[]⟩, [], 0⟩
theorem keyS {s : ByteArray} (hs : s.size ≤ 9223372036854775807) : keyOf Try.prog 9 (.string s) = some (.string s.data.toList) := Go.WideMaps.keyOf_string_mk Try.underlying9 (by unfold maxLen; exact hs)
theorem zeroF (w : World) : (zeroValue 67).run Try.prog w = .ok (.agg #[.slice none 0 0, .int .i64 0]) w := by kernel_rfl
theorem RV_inj {v u : Value} {ps : List MemPlace} (h : RV v = some (.held u, ps)) : v = u := by
  unfold RV at h
  injection h with h
  injection h with h
  injection h
theorem open_at {w : World} {F : Nat → Prop} {p mb : Nat} {left acts : Int} {L : List SF} {D : DataW Value} (q : Op) (hF : F p) (h1 : F mb) (h2 : mb ≠ p) (h3 : w.heap[p]? = some (.cells #[.map (some mb), .int .i64 left, .int .i64 acts] 62 (0, 0))) (h4 : w.ownsMap Try.prog 9 RV mb L.length D) (h5 : FilesAt w (okk F p mb none) D L) (h6 : Rise L)
    (hlt : ∀ k, F k → k < w.heap.size) (hb : q.b = w.heap.size) (hc : q.x.f1.length ≤ q.c) (hy : Kd.F kB w (okk F p mb none) q.A q.x.f1.length q.x.f1) :
    (storeT p left acts L (some q)).on (w.alloc (.cells #[.slice q.A q.x.f1.length q.c, .int .i64 q.x.f2] 67)) (fun k => F k ∨ k = w.heap.size) := by
  have hok : ∀ k, okk F p mb none k → okk (fun k => F k ∨ k = w.heap.size) p mb (some q) k := fun k hk => ⟨.inl hk.1, hk.2.1, hk.2.2.1, fun r e => by
    cases e
    rw [hb]
    have := hlt k hk.1
    omega⟩
  have hal : ∀ k, F k → (w.alloc (.cells #[.slice q.A q.x.f1.length q.c, .int .i64 q.x.f2] 67)).heap[k]? = w.heap[k]? := fun k hk => Below.heap_alloc w _ k (hlt k hk)
  refine ⟨.inl hF, mb, D, .inl h1, h2, (hal p hF).trans h3, h4.alloc _, h5.step (fun k hk _ => hal k hk.1) hok, h6, fun r e => ?_⟩
  cases e
  refine ⟨.inr hb, ?_, ?_, ?_, hc, Kd.F_mono (Kd.F_step hy fun k hk _ => hal k hk.1) hok⟩
  · rw [hb]
    have := hlt p hF
    omega
  · rw [hb]
    have := hlt mb h1
    omega
  · rw [hb]
    exact blk_new w _
/-- A name that is there is looked up; its box made, the file is open. -/
theorem look_hit {B : Nat} {w : World} {p : Nat} {left acts : Int} {L : List SF} {Ts : List Th} (h : Has B w (storeT p left acts L none :: Ts)) {s : ByteArray} (hs : s.size ≤ 9223372036854775807) {x : SF} (hx : findF L s.data.toList = some x) (ok : Bool) :
    ∃ mb A c, w.cell? ⟨p, 0, none⟩ = some (.map (some mb)) ∧ (Instr.lookup 60 (.map (some mb)) (.string s) true).run Try.prog w = .ok (.tuple #[fv A x c, .bool true]) w ∧ (Instr.lookup 60 (.map (some mb)) (.string s) false).run Try.prog w = .ok (fv A x c) w ∧
      Has B (w.alloc (.cells #[.slice A x.f1.length c, .int .i64 x.f2] 67)) (storeT p left acts L (some ⟨w.heap.size, x, A, c⟩) :: Ts) ∧ Below B w (w.alloc (.cells #[.slice A x.f1.length c, .int .i64 x.f2] 67)) := by
  obtain ⟨F, ⟨hF, mb, D, h1, h2, h3, h4, h5, h6, h7⟩, hFb, put⟩ := h.head
  obtain ⟨A, c, a1, a2, a3⟩ := h5.hit _ x hx
  have hh : Go.Maps.has D (.string s.data.toList) = true := by rw [h5.has, hx]; rfl
  obtain ⟨v, ps, hrun, hv⟩ := h4.look_ok lawK Try.underlying60 (zeroF w) (zd := .held (.agg #[.slice none 0 0, .int .i64 0])) (zp := []) rfl (keyS hs)
  obtain ⟨v2, ps2, hrun2, hv2⟩ := h4.lookup lawK Try.underlying60 (zeroF w) (zd := .held (.agg #[.slice none 0 0, .int .i64 0])) (zp := []) rfl (keyS hs)
  rw [a1] at hv hv2
  have e : v = fv A x c := RV_inj hv
  have e2 : v2 = fv A x c := RV_inj hv2
  rw [hh, e] at hrun
  rw [e2] at hrun2
  obtain ⟨p1, p2⟩ := put _ (fun k => F k ∨ k = w.heap.size) _ ((KeepF.refl F w).alloc _) (open_at ⟨w.heap.size, x, A, c⟩ hF h1 h2 h3 h4 h5 h6 (fun k hk => (hFb k hk).2) rfl a2 a3) (fun k hk => ⟨hk.imp id fun e => Nat.le_of_eq e.symm, by
    rw [World.size_alloc]
    rcases hk with hk | hk
    · have := (hFb k hk).2; omega
    · omega⟩)
  exact ⟨mb, A, c, by rw [blk_cell h3]; rfl, hrun, hrun2, p1, p2⟩
/-- A name that isn't there: the file that is open is empty. -/
theorem look_miss {B : Nat} {w : World} {p : Nat} {left acts : Int} {L : List SF} {Ts : List Th} (h : Has B w (storeT p left acts L none :: Ts)) {s : ByteArray} (hs : s.size ≤ 9223372036854775807) (hx : findF L s.data.toList = none) :
    ∃ mb, w.cell? ⟨p, 0, none⟩ = some (.map (some mb)) ∧ (Instr.lookup 60 (.map (some mb)) (.string s) true).run Try.prog w = .ok (.tuple #[.agg #[.slice none 0 0, .int .i64 0], .bool false]) w ∧
      Has B (w.alloc (.cells #[.slice none 0 0, .int .i64 0] 67)) (storeT p left acts L (some ⟨w.heap.size, zF, none, 0⟩) :: Ts) ∧ Below B w (w.alloc (.cells #[.slice none 0 0, .int .i64 0] 67)) := by
  obtain ⟨F, ⟨hF, mb, D, h1, h2, h3, h4, h5, h6, h7⟩, hFb, put⟩ := h.head
  have hh : Go.Maps.has D (.string s.data.toList) = false := by rw [h5.has, hx]; rfl
  obtain ⟨v, ps, hrun, hv⟩ := h4.look_ok lawK Try.underlying60 (zeroF w) (zd := .held (.agg #[.slice none 0 0, .int .i64 0])) (zp := []) rfl (keyS hs)
  rw [h5.miss _ hx] at hv
  have e : v = .agg #[.slice none 0 0, .int .i64 0] := RV_inj hv
  rw [hh, e] at hrun
  obtain ⟨p1, p2⟩ := put _ (fun k => F k ∨ k = w.heap.size) _ ((KeepF.refl F w).alloc _) (open_at ⟨w.heap.size, zF, none, 0⟩ hF h1 h2 h3 h4 h5 h6 (fun k hk => (hFb k hk).2) rfl (Nat.le_refl _) (Kd.F_nil _ _ _)) (fun k hk => ⟨hk.imp id fun e => Nat.le_of_eq e.symm, by
    rw [World.size_alloc]
    rcases hk with hk | hk
    · have := (hFb k hk).2; omega
    · omega⟩)
  exact ⟨mb, by rw [blk_cell h3]; rfl, hrun, p1, p2⟩
/-- Shut: the box is nobody's. -/
theorem store_shut {B : Nat} {w : World} {p : Nat} {left acts : Int} {L : List SF} {o : Option Op} {Ts : List Th} (h : Has B w (storeT p left acts L o :: Ts)) : Has B w (storeT p left acts L none :: Ts) := by
  obtain ⟨a, F, ⟨hF, mb, D, h1, h2, h3, h4, h5, h6, h7⟩, c, d⟩ := h
  exact ⟨a, F, ⟨hF, mb, D, h1, h2, h3, h4, h5.step (fun _ _ _ => rfl) (fun k hk => ⟨hk.1, hk.2.1, hk.2.2.1, fun q e => by cases e⟩), h6, fun q e => by cases e⟩, c, d⟩
theorem open_cells {B : Nat} {w : World} {p : Nat} {left acts : Int} {L : List SF} {q : Op} {Ts : List Th} (h : Has B w (storeT p left acts L (some q) :: Ts)) :
    w.cell? ⟨q.b, 0, none⟩ = some (.slice q.A q.x.f1.length q.c) ∧ w.cell? ⟨q.b, 1, none⟩ = some (.int .i64 q.x.f2) ∧ (∀ i, w.frozen? ⟨q.b, i, none⟩ = false) ∧ q.x.f1.length ≤ q.c ∧ Kd.C kB w q.A q.x.f1.length q.x.f1 := by
  obtain ⟨F, ⟨hF, mb, D, h1, h2, h3, h4, h5, h6, h7⟩, hFb, put⟩ := h.head
  have hq := h7 q rfl
  exact ⟨by rw [blk_cell hq.box]; rfl, by rw [blk_cell hq.box]; rfl, fun i => blk_frozen hq.box i, hq.le, Kd.F_now hq.bytes⟩
/-- The open file's box is turned. -/
theorem open_set {B : Nat} {w : World} {p : Nat} {left acts : Int} {L : List SF} {q : Op} {Ts : List Th} (h : Has B w (storeT p left acts L (some q) :: Ts)) :
    (∀ y : Int, Has B (w.setCell ⟨q.b, 1, none⟩ (.int .i64 y)) (storeT p left acts L (some ⟨q.b, ⟨q.x.f0, q.x.f1, y⟩, q.A, q.c⟩) :: Ts) ∧ Below B w (w.setCell ⟨q.b, 1, none⟩ (.int .i64 y))) ∧
    (∀ n : Nat, n ≤ q.x.f1.length → Has B (w.setCell ⟨q.b, 0, none⟩ (.slice q.A n q.c)) (storeT p left acts L (some ⟨q.b, ⟨q.x.f0, q.x.f1.take n, q.x.f2⟩, q.A, q.c⟩) :: Ts) ∧ Below B w (w.setCell ⟨q.b, 0, none⟩ (.slice q.A n q.c))) := by
  obtain ⟨F, ⟨hF, mb, D, h1, h2, h3, h4, h5, h6, h7⟩, hFb, put⟩ := h.head
  have hq := h7 q rfl
  have key : ∀ (i : Nat) (u : Value) (x' : SF), (#[.slice q.A q.x.f1.length q.c, .int .i64 q.x.f2] : Array Value).setIfInBounds i u = #[.slice q.A x'.f1.length q.c, .int .i64 x'.f2] → x'.f1.length ≤ q.c → (Kd.F kB w (okk F p mb (some q)) q.A x'.f1.length x'.f1) →
      Has B (w.setCell ⟨q.b, i, none⟩ u) (storeT p left acts L (some ⟨q.b, x', q.A, q.c⟩) :: Ts) ∧ Below B w (w.setCell ⟨q.b, i, none⟩ u) := by
    intro i u x' e hc hy
    have hset := blk_set hq.box i u
    rw [e] at hset
    have hok : ∀ k, okk F p mb (some q) k → okk F p mb (some ⟨q.b, x', q.A, q.c⟩) k := fun k hk => ⟨hk.1, hk.2.1, hk.2.2.1, fun r e => by cases e; exact hk.2.2.2 q rfl⟩
    have hfar : ∀ k, k ≠ q.b → (w.setCell ⟨q.b, i, none⟩ u).heap[k]? = w.heap[k]? := fun k hk => Below.heap_setCell w ⟨q.b, i, none⟩ u k hk
    refine put _ F _ ((KeepF.refl F w).setCell (.inl hq.mem) u) ⟨hF, mb, D, h1, h2, (hfar p hq.nep.symm).trans h3, h4.setCell (a := ⟨q.b, i, none⟩) hq.nem.symm u, h5.step (fun k hk _ => hfar k (hk.2.2.2 q rfl)) hok, h6, fun r e => ?_⟩ (fun k hk => ⟨.inl hk, by have := (hFb k hk).2; simpa using this⟩)
    cases e
    exact ⟨hq.mem, hq.nep, hq.nem, hset, hc, Kd.F_mono (Kd.F_step hy fun k hk _ => hfar k (hk.2.2.2 q rfl)) hok⟩
  refine ⟨fun y => key 1 _ ⟨q.x.f0, q.x.f1, y⟩ rfl hq.le hq.bytes, fun n hn => ?_⟩
  have hl : (q.x.f1.take n).length = n := by rw [List.length_take]; omega
  refine key 0 _ ⟨q.x.f0, q.x.f1.take n, q.x.f2⟩ ?_ ?_ (Kd.F_take hq.bytes hn)
  · show #[Value.slice q.A n q.c, .int .i64 q.x.f2] = #[Value.slice q.A (q.x.f1.take n).length q.c, .int .i64 q.x.f2]
    rw [hl]
  · show (q.x.f1.take n).length ≤ q.c
    have := hq.le
    omega
/-- The open file is put under a name. -/
theorem put_run {B : Nat} {w : World} {p : Nat} {left acts : Int} {L : List SF} {q : Op} {Ts : List Th} (h : Has B w (storeT p left acts L (some q) :: Ts)) {s : ByteArray} (hs : s.size ≤ 9223372036854775807) (hn : L.length < 1000000) :
    ∃ mb w', w.cell? ⟨p, 0, none⟩ = some (.map (some mb)) ∧ (Instr.mapUpdate 60 (.map (some mb)) (.string s) (fv q.A q.x q.c)).run Try.prog w = .ok () w' ∧
      Has B w' (storeT p left acts (setF L ⟨s, q.x.f1, q.x.f2⟩) (some q) :: Ts) ∧ Below B w w' := by
  obtain ⟨F, ⟨hF, mb, D, h1, h2, h3, h4, h5, h6, h7⟩, hFb, put⟩ := h.head
  have hq := h7 q rfl
  obtain ⟨w', hrun, ho, ht⟩ := h4.store lawK Try.underlying60 (by unfold maxLen; omega) (keyS hs) (val := fv q.A q.x q.c) (d := .held (fv q.A q.x q.c)) (ps := []) rfl
  have hfp := files_put h5 (h4.tidy lawK) h6 ⟨s, q.x.f1, q.x.f2⟩ (A := q.A) (c := q.c) hq.le hq.bytes
  have ho' := own_tight ho
  have hg := ht.grown
  have hfar : ∀ k, F k → k ≠ mb → w'.heap[k]? = w.heap[k]? := fun k hk hne => hg.block k (hFb k hk).2 (fun e => by injection e with e; exact hne e)
  obtain ⟨p1, p2⟩ := put w' F (storeT p left acts (setF L ⟨s, q.x.f1, q.x.f2⟩) (some q)) ((KeepF.refl F w).grown hg fun k e => by injection e with e; subst e; exact .inl h1)
    ⟨hF, mb, _, h1, h2, (hfar p hF h2.symm).trans h3, by rw [← hfp.size]; exact ho', hfp.step (fun k hk _ => hfar k hk.1 hk.2.2.1) (fun k hk => hk), set_rise h6 _, fun r e => by
      cases e
      exact ⟨hq.mem, hq.nep, hq.nem, (hfar _ hq.mem hq.nem).trans hq.box, hq.le, Kd.F_step hq.bytes fun k hk _ => hfar k hk.1 hk.2.2.1⟩⟩ (fun k hk => ⟨.inl hk, Nat.lt_of_lt_of_le (hFb k hk).2 hg.size⟩)
  exact ⟨mb, w', by rw [blk_cell h3]; rfl, hrun, p1, p2⟩
/-- A name is deleted. -/
theorem del_run {B : Nat} {w : World} {p : Nat} {left acts : Int} {L : List SF} {o : Option Op} {Ts : List Th} (h : Has B w (storeT p left acts L o :: Ts)) {s : ByteArray} (hs : s.size ≤ 9223372036854775807) (ty : TypeId) :
    ∃ mb w', w.cell? ⟨p, 0, none⟩ = some (.map (some mb)) ∧ (Builtin.delete_ #[60, 9] ty #[.map (some mb), .string s]).run Try.prog w = .ok (.tuple #[]) w' ∧
      Has B w' (storeT p left acts (cutF L s.data.toList) o :: Ts) ∧ Below B w w' := by
  obtain ⟨F, ⟨hF, mb, D, h1, h2, h3, h4, h5, h6, h7⟩, hFb, put⟩ := h.head
  obtain ⟨w', hrun, ho, ht⟩ := h4.drop lawK Try.underlying60 (keyS hs) ty
  have hfp := files_del h5 (h4.tidy lawK) h6 s.data.toList
  have ho' := own_tight ho
  have hg := ht.grown
  have hfar : ∀ k, F k → k ≠ mb → w'.heap[k]? = w.heap[k]? := fun k hk hne => hg.block k (hFb k hk).2 (fun e => by injection e with e; exact hne e)
  obtain ⟨p1, p2⟩ := put w' F (storeT p left acts (cutF L s.data.toList) o) ((KeepF.refl F w).grown hg fun k e => by injection e with e; subst e; exact .inl h1)
    ⟨hF, mb, _, h1, h2, (hfar p hF h2.symm).trans h3, by rw [← hfp.size]; exact ho', hfp.step (fun k hk _ => hfar k hk.1 hk.2.2.1) (fun k hk => hk), cut_rise h6 _, fun r e => ⟨(h7 r e).mem, (h7 r e).nep, (h7 r e).nem, (hfar _ (h7 r e).mem (h7 r e).nem).trans (h7 r e).box, (h7 r e).le, Kd.F_step (h7 r e).bytes fun k hk _ => hfar k hk.1 hk.2.2.1⟩⟩ (fun k hk => ⟨.inl hk, Nat.lt_of_lt_of_le (hFb k hk).2 hg.size⟩)
  exact ⟨mb, w', by rw [blk_cell h3]; rfl, hrun, p1, p2⟩
/-- How many files. -/
theorem len_run {B : Nat} {w : World} {p : Nat} {left acts : Int} {L : List SF} {o : Option Op} {Ts : List Th} (h : Has B w (storeT p left acts L o :: Ts)) (ty : TypeId) :
    ∃ mb, w.cell? ⟨p, 0, none⟩ = some (.map (some mb)) ∧ (Builtin.len_ #[60] ty #[.map (some mb)]).run Try.prog w = .ok (.int .i64 (L.length : Int)) w := by
  obtain ⟨F, ⟨hF, mb, D, h1, h2, h3, h4, h5, h6, h7⟩, hFb, put⟩ := h.head
  have hrun := h4.len Try.underlying60 ty
  rw [h5.size] at hrun
  exact ⟨mb, by rw [blk_cell h3]; rfl, hrun⟩
end Go.Proofs.Ytibnakpefjjoiaa.Fs
namespace Go.Proofs.Ytibnakpefjjoiaa.Fs
open Go.RowKit Go.Proofs.YtibnakpefjjoiaaW.PrintWords Go.Proofs.YtibnakpefjjoiaaW.PrintLast Go.Proofs.Ytibnakpefjjoiaa.Q Go.Proofs.Ytibnakpefjjoiaa.Own
set_option linter.unusedVariables false
set_option linter.unusedSimpArgs false
attribute [local go_sem ↓] Go.wp_at_zero Go.wp_at_succ

/-- A look-up, whatever is open. -/
theorem look_run {B : Nat} {w : World} {p : Nat} {left acts : Int} {L : List SF} {o : Option Op} {Ts : List Th} (h : Has B w (storeT p left acts L o :: Ts)) {s : ByteArray} (hs : s.size ≤ 9223372036854775807) :
    ∃ mb, w.cell? ⟨p, 0, none⟩ = some (.map (some mb)) ∧ (∀ x, findF L s.data.toList = some x → ∃ A c, (Instr.lookup 60 (.map (some mb)) (.string s) true).run Try.prog w = .ok (.tuple #[fv A x c, .bool true]) w) ∧
      (findF L s.data.toList = none → (Instr.lookup 60 (.map (some mb)) (.string s) true).run Try.prog w = .ok (.tuple #[.agg #[.slice none 0 0, .int .i64 0], .bool false]) w) := by
  obtain ⟨F, ⟨hF, mb, D, h1, h2, h3, h4, h5, h6, h7⟩, hFb, put⟩ := h.head
  obtain ⟨v, ps, hrun, hv⟩ := h4.look_ok lawK Try.underlying60 (zeroF w) (zd := .held (.agg #[.slice none 0 0, .int .i64 0])) (zp := []) rfl (keyS hs)
  refine ⟨mb, by rw [blk_cell h3]; rfl, fun x hx => ?_, fun hx => ?_⟩
  · obtain ⟨A, c, a1, a2, a3⟩ := h5.hit _ x hx
    have hh : Go.Maps.has D (.string s.data.toList) = true := by rw [h5.has, hx]; rfl
    rw [a1] at hv
    have e : v = fv A x c := RV_inj hv
    rw [hh, e] at hrun
    exact ⟨A, c, hrun⟩
  · have hh : Go.Maps.has D (.string s.data.toList) = false := by rw [h5.has, hx]; rfl
    rw [h5.miss _ hx] at hv
    have e : v = .agg #[.slice none 0 0, .int .i64 0] := RV_inj hv
    rw [hh, e] at hrun
    exact hrun
def withL (L : List SF) (s : ByteArray) (x : SF) : List SF := if (findF L s.data.toList).isSome = true then setF L ⟨s, x.f1, x.f2⟩ else L
/-- What a call leaves of a store, and answers. -/
def StPost (B : Nat) (w : World) (p : Nat) (left acts : Int) (L : List SF) (Ts : List Th) (r : Int) (e : Ending) (w' : World) : Prop := e = .returned (.int .i64 r) ∧ Has B w' (storeT p left acts L none :: Ts) ∧ Below B w w'
/-- What a closure leaves of the open file. -/
def CloPost (B : Nat) (w : World) (p b : Nat) (left acts : Int) (L : List SF) (x : SF) (Ts : List Th) (r : Int) (e : Ending) (w' : World) : Prop := ∃ A c, e = .returned (.int .i64 r) ∧ Has B w' (storeT p left acts L (some ⟨b, x, A, c⟩) :: Ts) ∧ Below B w w'
set_option maxHeartbeats 2000000 in
set_option maxRecDepth 100000 in
theorem with_refused {B : Nat} {w : World} {p : Nat} {left acts : Int} {L : List SF} {Ts : List Th} (h : Has B w (storeT p left acts L none :: Ts)) (s : ByteArray) (hl : left = 0) (fv : Value) :
    Calls Try.prog 36 #[ptr p, .string s, fv] w (StPost B w p left acts L Ts 30) := by
  have HR := Aside0.mk (refuse_calls h)
  rw [show refuseE left = 30 from if_pos hl] at HR
  have HA := Aside0.mk h
  clear h hl
  go_enter Try.func36, Try.ntmps36
  go_wp2_with fail
  refine HR.out.mono ?_
  rintro e w1 ⟨rfl, rfl⟩
  go_wp2_with fail
  go_ret
  exact ⟨rfl, HA.out, Below.refl _ _⟩
set_option maxHeartbeats 2000000 in
set_option maxRecDepth 100000 in
theorem with_missing {B : Nat} {w : World} {p : Nat} {left acts : Int} {L : List SF} {Ts : List Th} (h : Has B w (storeT p left acts L none :: Ts)) {s : ByteArray} (hs : s.size ≤ 9223372036854775807) (hx : findF L s.data.toList = none) (hl : left ≠ 0) (fv : Value) :
    Calls Try.prog 36 #[ptr p, .string s, fv] w (StPost B w p left acts L Ts 31) := by
  have HR := Aside0.mk (refuse_calls h)
  rw [show refuseE left = 0 from if_neg hl] at HR
  obtain ⟨mb, c0, hrun, hA, hB⟩ := look_miss h hs hx
  have HA := Aside0.mk (store_shut hA)
  have HB := Aside0.mk hB
  have hu := Try.underlying67
  clear h hA hB hs hl hx
  go_enter Try.func36, Try.ntmps36
  go_wp2_with fail
  refine HR.out.mono ?_
  rintro e w1 ⟨rfl, rfl⟩
  go_wp2_with fail
  go_ret
  exact ⟨rfl, HA.out, HB.out⟩
set_option maxHeartbeats 4000000 in
set_option maxRecDepth 100000 in
theorem with_sync {B : Nat} {w : World} {p : Nat} {left acts left' acts' : Int} {L L' : List SF} {Ts Ts' : List Th} {r : Int} {x x' : SF} {c1 : Nat} (h : Has B w (storeT p left acts L none :: Ts)) {s : ByteArray} (hs : s.size ≤ 9223372036854775807) (hx : findF L s.data.toList = some x) (hl : left ≠ 0) (hn : L'.length < 1000000)
    (HK : ∀ (A : Option Addr) (c b : Nat) (w1 : World), Has B w1 (storeT p left acts L (some ⟨b, x, A, c⟩) :: Ts) → Calls Try.prog 41 #[ptr b, ptr c1] w1 (CloPost B w1 p b left' acts' L' x' Ts' r)) :
    Calls Try.prog 36 #[ptr p, .string s, .func (.func 41) #[] #[ptr c1]] w (StPost B w p left' acts' (withL L' s x') Ts' r) := by
  have HR := Aside0.mk (refuse_calls h)
  rw [show refuseE left = 0 from if_neg hl] at HR
  obtain ⟨mb, A, c, c0, hrun, -, hA, hB⟩ := look_hit h hs hx true
  have HA := Aside0.mk hA
  have HB := Aside0.mk hB
  have HKK := Aside0.mk HK
  have HS := Aside0.mk hs
  have HN := Aside0.mk hn
  have hu := Try.underlying67
  clear h hA hB HK hs hn hl hx
  go_enter Try.func36, Try.ntmps36
  go_wp2_with fail
  refine HR.out.mono ?_
  rintro e w1 ⟨rfl, rfl⟩
  go_wp2_with fail
  generalize w.alloc (.cells #[.slice A x.f1.length c, .int .i64 x.f2] 67) = w2 at HA HB ⊢
  generalize w.heap.size = b at HA ⊢
  refine (HKK.out A c b w2 HA.out).mono ?_
  rintro e w3 ⟨A', c', rfl, hA, hB⟩
  have HA3 := Aside0.mk hA
  have HB3 := Aside0.mk (HB.out.trans hB)
  clear hA hB HA HB HKK HR hrun c0
  obtain ⟨mb2, d0, hit, miss⟩ := look_run HA3.out HS.out
  cases hf : findF L' s.data.toList with
  | none =>
    have hrun := miss hf
    have HW : Aside0 (withL L' s x' = L') := ⟨by unfold withL; rw [hf]; rfl⟩
    have HB4 := Aside0.mk (HB3.out.alloc HA3.out.size (.cells #[.slice none 0 0, .int .i64 0] 67))
    have HA4 := Aside0.mk (HA3.out.alloc (.cells #[.slice none 0 0, .int .i64 0] 67))
    clear hit miss hf
    go_wp2_with fail
    go_ret
    exact ⟨rfl, by rw [HW.out]; exact store_shut HA4.out, HB4.out⟩
  | some y =>
    obtain ⟨A2, c2, hrun⟩ := hit y hf
    have HW : Aside0 (withL L' s x' = setF L' ⟨s, x'.f1, x'.f2⟩) := ⟨by unfold withL; rw [hf]; rfl⟩
    have HB4 := Aside0.mk (HB3.out.alloc HA3.out.size (.cells #[.slice A2 y.f1.length c2, .int .i64 y.f2] 67))
    have HA4 := Aside0.mk (HA3.out.alloc (.cells #[.slice A2 y.f1.length c2, .int .i64 y.f2] 67))
    clear hit miss hf
    go_wp2_with fail
    generalize w3.alloc (.cells #[.slice A2 y.f1.length c2, .int .i64 y.f2] 67) = w4 at HA4 HB4 ⊢
    clear d0 hrun HA3 HB3
    obtain ⟨mb3, w5, e0, hput, hA5, hB5⟩ := put_run HA4.out.drew HS.out HN.out
    obtain ⟨b0, b1, bf, -, -⟩ := open_cells HA4.out
    dsimp only at b0 b1
    have e0' : w4.cell? ⟨p, 0, none⟩ = some (.map (some mb3)) := e0
    have HA5 := Aside0.mk hA5
    have HB5 := Aside0.mk ((HB4.out.trans (below_drew (Below.refl _ _))).trans hB5)
    clear hA5 hB5 bf e0
    refine start_ (n := 7) (S := fun w' => w'.cell? ⟨p, 0, none⟩ = some (.map (some mb3)) ∧ w'.cell? ⟨b, 0, none⟩ = some (.slice A' x'.f1.length c') ∧ w'.cell? ⟨b, 1, none⟩ = some (.int .i64 x'.f2)) (ds := [6]) #[false, false, false, false, false, false, false] (by kernel_rfl) rfl rfl ⟨e0', b0, b1⟩ (fun hHeld => ?_)
    refine pure_ (i := 0) (N := some 41) (v := ?_) (a' := ?_) #[true, false, false, false, false, false, false] rfl rfl (by kernel_rfl) (fun _ _ _ h => h) (Or.inl ⟨by rfl, ?_⟩) ?_ ?_
    rotate_left
    · intro w'
      go_simp
      with_reducible rfl
    rotate_left
    · simp only [Act.put, List.setIfInBounds_toArray, List.set_cons_zero, List.set_cons_succ, i64_w, i32_w]
      rfl
    refine pure_ (i := 1) (N := some 42) (v := ?_) (a' := ?_) #[true, true, false, false, false, false, false] rfl rfl (by kernel_rfl) (fun _ _ _ h => h) (Or.inl ⟨by rfl, ?_⟩) ?_ ?_
    rotate_left
    · intro w'
      go_simp
      with_reducible rfl
    rotate_left
    · simp only [Act.put, List.setIfInBounds_toArray, List.set_cons_zero, List.set_cons_succ, i64_w, i32_w]
      rfl
    refine pure_ (i := 2) (N := some 43) (v := ?_) (a' := ?_) #[true, true, true, false, false, false, false] rfl rfl (by kernel_rfl) (fun _ _ _ h => h) (Or.inl ⟨by rfl, ?_⟩) ?_ ?_
    rotate_left
    · intro w'
      go_simp
      with_reducible rfl
    rotate_left
    · simp only [Act.put, List.setIfInBounds_toArray, List.set_cons_zero, List.set_cons_succ, i64_w, i32_w]
      rfl
    refine pure_ (i := 4) (N := some 45) (v := ?_) (a' := ?_) #[true, true, true, false, true, false, false] rfl rfl (by kernel_rfl) (fun _ _ _ h => h) (Or.inl ⟨by rfl, ?_⟩) ?_ ?_
    rotate_left
    · intro w'
      go_simp
      with_reducible rfl
    rotate_left
    · simp only [Act.put, List.setIfInBounds_toArray, List.set_cons_zero, List.set_cons_succ, i64_w, i32_w]
      rfl
    refine take_ (i := 3) (N := some 44) (v := ?_) (a' := ?_) #[true, true, true, true, true, false, false] rfl rfl (by kernel_rfl) (fun _ _ _ h => h) (Or.inl ⟨by rfl, ?_⟩) hHeld ?_ ?_
    rotate_left
    · rintro w' ⟨s0, s1, s2⟩
      go_simp
      with_reducible rfl
    rotate_left
    · simp only [Act.put, List.setIfInBounds_toArray, List.set_cons_zero, List.set_cons_succ, i64_w, i32_w]
      rfl
    refine take_ (i := 5) (N := some 46) (v := ?_) (a' := ?_) #[true, true, true, true, true, true, false] rfl rfl (by kernel_rfl) (fun _ _ _ h => h) (Or.inl ⟨by rfl, ?_⟩) hHeld ?_ ?_
    rotate_left
    · rintro w' ⟨s0, s1, s2⟩
      go_simp
      with_reducible rfl
    rotate_left
    · simp only [Act.put, List.setIfInBounds_toArray, List.set_cons_zero, List.set_cons_succ, i64_w, i32_w]
      rfl
    refine last_ (i := 6) (N := none) #[true, true, true, true, true, true, true] rfl rfl (by kernel_rfl) (by decide) (fun K hK => ?_)
    refine skip_ (w1 := ?_) (by rfl) rfl ?_ ?_
    rotate_left
    · go_simp
      rfl
    refine hK.out _ _ ?_
    clear hK K
    refine done_ (by kernel_rfl) ?_

    go_wp2_with fail
    go_ret
    exact ⟨rfl, by rw [HW.out]; exact store_shut HA5.out, HB5.out⟩

set_option maxHeartbeats 4000000 in
set_option maxRecDepth 100000 in
theorem with_trunc {B : Nat} {w : World} {p : Nat} {left acts left' acts' : Int} {L L' : List SF} {Ts Ts' : List Th} {r : Int} {x x' : SF} {c1 c2 : Nat} (h : Has B w (storeT p left acts L none :: Ts)) {s : ByteArray} (hs : s.size ≤ 9223372036854775807) (hx : findF L s.data.toList = some x) (hl : left ≠ 0) (hn : L'.length < 1000000)
    (HK : ∀ (A : Option Addr) (c b : Nat) (w1 : World), Has B w1 (storeT p left acts L (some ⟨b, x, A, c⟩) :: Ts) → Calls Try.prog 37 #[ptr b, ptr c1, ptr c2] w1 (CloPost B w1 p b left' acts' L' x' Ts' r)) :
    Calls Try.prog 36 #[ptr p, .string s, .func (.func 37) #[] #[ptr c1, ptr c2]] w (StPost B w p left' acts' (withL L' s x') Ts' r) := by
  have HR := Aside0.mk (refuse_calls h)
  rw [show refuseE left = 0 from if_neg hl] at HR
  obtain ⟨mb, A, c, c0, hrun, -, hA, hB⟩ := look_hit h hs hx true
  have HA := Aside0.mk hA
  have HB := Aside0.mk hB
  have HKK := Aside0.mk HK
  have HS := Aside0.mk hs
  have HN := Aside0.mk hn
  have hu := Try.underlying67
  clear h hA hB HK hs hn hl hx
  go_enter Try.func36, Try.ntmps36
  go_wp2_with fail
  refine HR.out.mono ?_
  rintro e w1 ⟨rfl, rfl⟩
  go_wp2_with fail
  generalize w.alloc (.cells #[.slice A x.f1.length c, .int .i64 x.f2] 67) = w2 at HA HB ⊢
  generalize w.heap.size = b at HA ⊢
  refine (HKK.out A c b w2 HA.out).mono ?_
  rintro e w3 ⟨A', c', rfl, hA, hB⟩
  have HA3 := Aside0.mk hA
  have HB3 := Aside0.mk (HB.out.trans hB)
  clear hA hB HA HB HKK HR hrun c0
  obtain ⟨mb2, d0, hit, miss⟩ := look_run HA3.out HS.out
  cases hf : findF L' s.data.toList with
  | none =>
    have hrun := miss hf
    have HW : Aside0 (withL L' s x' = L') := ⟨by unfold withL; rw [hf]; rfl⟩
    have HB4 := Aside0.mk (HB3.out.alloc HA3.out.size (.cells #[.slice none 0 0, .int .i64 0] 67))
    have HA4 := Aside0.mk (HA3.out.alloc (.cells #[.slice none 0 0, .int .i64 0] 67))
    clear hit miss hf
    go_wp2_with fail
    go_ret
    exact ⟨rfl, by rw [HW.out]; exact store_shut HA4.out, HB4.out⟩
  | some y =>
    obtain ⟨A2, c2, hrun⟩ := hit y hf
    have HW : Aside0 (withL L' s x' = setF L' ⟨s, x'.f1, x'.f2⟩) := ⟨by unfold withL; rw [hf]; rfl⟩
    have HB4 := Aside0.mk (HB3.out.alloc HA3.out.size (.cells #[.slice A2 y.f1.length c2, .int .i64 y.f2] 67))
    have HA4 := Aside0.mk (HA3.out.alloc (.cells #[.slice A2 y.f1.length c2, .int .i64 y.f2] 67))
    clear hit miss hf
    go_wp2_with fail
    generalize w3.alloc (.cells #[.slice A2 y.f1.length c2, .int .i64 y.f2] 67) = w4 at HA4 HB4 ⊢
    clear d0 hrun HA3 HB3
    obtain ⟨mb3, w5, e0, hput, hA5, hB5⟩ := put_run HA4.out.drew HS.out HN.out
    obtain ⟨b0, b1, bf, -, -⟩ := open_cells HA4.out
    dsimp only at b0 b1
    have e0' : w4.cell? ⟨p, 0, none⟩ = some (.map (some mb3)) := e0
    have HA5 := Aside0.mk hA5
    have HB5 := Aside0.mk ((HB4.out.trans (below_drew (Below.refl _ _))).trans hB5)
    clear hA5 hB5 bf e0
    refine start_ (n := 7) (S := fun w' => w'.cell? ⟨p, 0, none⟩ = some (.map (some mb3)) ∧ w'.cell? ⟨b, 0, none⟩ = some (.slice A' x'.f1.length c') ∧ w'.cell? ⟨b, 1, none⟩ = some (.int .i64 x'.f2)) (ds := [6]) #[false, false, false, false, false, false, false] (by kernel_rfl) rfl rfl ⟨e0', b0, b1⟩ (fun hHeld => ?_)
    refine pure_ (i := 0) (N := some 41) (v := ?_) (a' := ?_) #[true, false, false, false, false, false, false] rfl rfl (by kernel_rfl) (fun _ _ _ h => h) (Or.inl ⟨by rfl, ?_⟩) ?_ ?_
    rotate_left
    · intro w'
      go_simp
      with_reducible rfl
    rotate_left
    · simp only [Act.put, List.setIfInBounds_toArray, List.set_cons_zero, List.set_cons_succ, i64_w, i32_w]
      rfl
    refine pure_ (i := 1) (N := some 42) (v := ?_) (a' := ?_) #[true, true, false, false, false, false, false] rfl rfl (by kernel_rfl) (fun _ _ _ h => h) (Or.inl ⟨by rfl, ?_⟩) ?_ ?_
    rotate_left
    · intro w'
      go_simp
      with_reducible rfl
    rotate_left
    · simp only [Act.put, List.setIfInBounds_toArray, List.set_cons_zero, List.set_cons_succ, i64_w, i32_w]
      rfl
    refine pure_ (i := 2) (N := some 43) (v := ?_) (a' := ?_) #[true, true, true, false, false, false, false] rfl rfl (by kernel_rfl) (fun _ _ _ h => h) (Or.inl ⟨by rfl, ?_⟩) ?_ ?_
    rotate_left
    · intro w'
      go_simp
      with_reducible rfl
    rotate_left
    · simp only [Act.put, List.setIfInBounds_toArray, List.set_cons_zero, List.set_cons_succ, i64_w, i32_w]
      rfl
    refine pure_ (i := 4) (N := some 45) (v := ?_) (a' := ?_) #[true, true, true, false, true, false, false] rfl rfl (by kernel_rfl) (fun _ _ _ h => h) (Or.inl ⟨by rfl, ?_⟩) ?_ ?_
    rotate_left
    · intro w'
      go_simp
      with_reducible rfl
    rotate_left
    · simp only [Act.put, List.setIfInBounds_toArray, List.set_cons_zero, List.set_cons_succ, i64_w, i32_w]
      rfl
    refine take_ (i := 3) (N := some 44) (v := ?_) (a' := ?_) #[true, true, true, true, true, false, false] rfl rfl (by kernel_rfl) (fun _ _ _ h => h) (Or.inl ⟨by rfl, ?_⟩) hHeld ?_ ?_
    rotate_left
    · rintro w' ⟨s0, s1, s2⟩
      go_simp
      with_reducible rfl
    rotate_left
    · simp only [Act.put, List.setIfInBounds_toArray, List.set_cons_zero, List.set_cons_succ, i64_w, i32_w]
      rfl
    refine take_ (i := 5) (N := some 46) (v := ?_) (a' := ?_) #[true, true, true, true, true, true, false] rfl rfl (by kernel_rfl) (fun _ _ _ h => h) (Or.inl ⟨by rfl, ?_⟩) hHeld ?_ ?_
    rotate_left
    · rintro w' ⟨s0, s1, s2⟩
      go_simp
      with_reducible rfl
    rotate_left
    · simp only [Act.put, List.setIfInBounds_toArray, List.set_cons_zero, List.set_cons_succ, i64_w, i32_w]
      rfl
    refine last_ (i := 6) (N := none) #[true, true, true, true, true, true, true] rfl rfl (by kernel_rfl) (by decide) (fun K hK => ?_)
    refine skip_ (w1 := ?_) (by rfl) rfl ?_ ?_
    rotate_left
    · go_simp
      rfl
    refine hK.out _ _ ?_
    clear hK K
    refine done_ (by kernel_rfl) ?_

    go_wp2_with fail
    go_ret
    exact ⟨rfl, by rw [HW.out]; exact store_shut HA5.out, HB5.out⟩

set_option maxHeartbeats 4000000 in
set_option maxRecDepth 100000 in
theorem with_read {B : Nat} {w : World} {p : Nat} {left acts left' acts' : Int} {L L' : List SF} {Ts : List Th} {Ts' : Value → List Th} {r : Int} {x x' : SF} {c1 : Nat} (h : Has B w (storeT p left acts L none :: Ts)) {s : ByteArray} (hs : s.size ≤ 9223372036854775807) (hx : findF L s.data.toList = some x) (hl : left ≠ 0) (hn : L'.length < 1000000)
    (HK : ∀ (A : Option Addr) (c b : Nat) (w1 : World), Has B w1 (storeT p left acts L (some ⟨b, x, A, c⟩) :: Ts) → Calls Try.prog 38 #[ptr b, ptr c1] w1 (fun e w' => ∃ v, CloPost B w1 p b left' acts' L' x' (Ts' v) r e w')) :
    Calls Try.prog 36 #[ptr p, .string s, .func (.func 38) #[] #[ptr c1]] w (fun e w' => ∃ v, StPost B w p left' acts' (withL L' s x') (Ts' v) r e w') := by
  have HR := Aside0.mk (refuse_calls h)
  rw [show refuseE left = 0 from if_neg hl] at HR
  obtain ⟨mb, A, c, c0, hrun, -, hA, hB⟩ := look_hit h hs hx true
  have HA := Aside0.mk hA
  have HB := Aside0.mk hB
  have HKK := Aside0.mk HK
  have HS := Aside0.mk hs
  have HN := Aside0.mk hn
  have hu := Try.underlying67
  clear h hA hB HK hs hn hl hx
  go_enter Try.func36, Try.ntmps36
  go_wp2_with fail
  refine HR.out.mono ?_
  rintro e w1 ⟨rfl, rfl⟩
  go_wp2_with fail
  generalize w.alloc (.cells #[.slice A x.f1.length c, .int .i64 x.f2] 67) = w2 at HA HB ⊢
  generalize w.heap.size = b at HA ⊢
  refine (HKK.out A c b w2 HA.out).mono ?_
  rintro e w3 ⟨v, A', c', rfl, hA, hB⟩
  have HA3 := Aside0.mk hA
  have HB3 := Aside0.mk (HB.out.trans hB)
  clear hA hB HA HB HKK HR hrun c0
  obtain ⟨mb2, d0, hit, miss⟩ := look_run HA3.out HS.out
  cases hf : findF L' s.data.toList with
  | none =>
    have hrun := miss hf
    have HW : Aside0 (withL L' s x' = L') := ⟨by unfold withL; rw [hf]; rfl⟩
    have HB4 := Aside0.mk (HB3.out.alloc HA3.out.size (.cells #[.slice none 0 0, .int .i64 0] 67))
    have HA4 := Aside0.mk (HA3.out.alloc (.cells #[.slice none 0 0, .int .i64 0] 67))
    clear hit miss hf
    go_wp2_with fail
    go_ret
    exact ⟨v, rfl, by rw [HW.out]; exact store_shut HA4.out, HB4.out⟩
  | some y =>
    obtain ⟨A2, c2, hrun⟩ := hit y hf
    have HW : Aside0 (withL L' s x' = setF L' ⟨s, x'.f1, x'.f2⟩) := ⟨by unfold withL; rw [hf]; rfl⟩
    have HB4 := Aside0.mk (HB3.out.alloc HA3.out.size (.cells #[.slice A2 y.f1.length c2, .int .i64 y.f2] 67))
    have HA4 := Aside0.mk (HA3.out.alloc (.cells #[.slice A2 y.f1.length c2, .int .i64 y.f2] 67))
    clear hit miss hf
    go_wp2_with fail
    generalize w3.alloc (.cells #[.slice A2 y.f1.length c2, .int .i64 y.f2] 67) = w4 at HA4 HB4 ⊢
    clear d0 hrun HA3 HB3
    obtain ⟨mb3, w5, e0, hput, hA5, hB5⟩ := put_run HA4.out.drew HS.out HN.out
    obtain ⟨b0, b1, bf, -, -⟩ := open_cells HA4.out
    dsimp only at b0 b1
    have e0' : w4.cell? ⟨p, 0, none⟩ = some (.map (some mb3)) := e0
    have HA5 := Aside0.mk hA5
    have HB5 := Aside0.mk ((HB4.out.trans (below_drew (Below.refl _ _))).trans hB5)
    clear hA5 hB5 bf e0
    refine start_ (n := 7) (S := fun w' => w'.cell? ⟨p, 0, none⟩ = some (.map (some mb3)) ∧ w'.cell? ⟨b, 0, none⟩ = some (.slice A' x'.f1.length c') ∧ w'.cell? ⟨b, 1, none⟩ = some (.int .i64 x'.f2)) (ds := [6]) #[false, false, false, false, false, false, false] (by kernel_rfl) rfl rfl ⟨e0', b0, b1⟩ (fun hHeld => ?_)
    refine pure_ (i := 0) (N := some 41) (v := ?_) (a' := ?_) #[true, false, false, false, false, false, false] rfl rfl (by kernel_rfl) (fun _ _ _ h => h) (Or.inl ⟨by rfl, ?_⟩) ?_ ?_
    rotate_left
    · intro w'
      go_simp
      with_reducible rfl
    rotate_left
    · simp only [Act.put, List.setIfInBounds_toArray, List.set_cons_zero, List.set_cons_succ, i64_w, i32_w]
      rfl
    refine pure_ (i := 1) (N := some 42) (v := ?_) (a' := ?_) #[true, true, false, false, false, false, false] rfl rfl (by kernel_rfl) (fun _ _ _ h => h) (Or.inl ⟨by rfl, ?_⟩) ?_ ?_
    rotate_left
    · intro w'
      go_simp
      with_reducible rfl
    rotate_left
    · simp only [Act.put, List.setIfInBounds_toArray, List.set_cons_zero, List.set_cons_succ, i64_w, i32_w]
      rfl
    refine pure_ (i := 2) (N := some 43) (v := ?_) (a' := ?_) #[true, true, true, false, false, false, false] rfl rfl (by kernel_rfl) (fun _ _ _ h => h) (Or.inl ⟨by rfl, ?_⟩) ?_ ?_
    rotate_left
    · intro w'
      go_simp
      with_reducible rfl
    rotate_left
    · simp only [Act.put, List.setIfInBounds_toArray, List.set_cons_zero, List.set_cons_succ, i64_w, i32_w]
      rfl
    refine pure_ (i := 4) (N := some 45) (v := ?_) (a' := ?_) #[true, true, true, false, true, false, false] rfl rfl (by kernel_rfl) (fun _ _ _ h => h) (Or.inl ⟨by rfl, ?_⟩) ?_ ?_
    rotate_left
    · intro w'
      go_simp
      with_reducible rfl
    rotate_left
    · simp only [Act.put, List.setIfInBounds_toArray, List.set_cons_zero, List.set_cons_succ, i64_w, i32_w]
      rfl
    refine take_ (i := 3) (N := some 44) (v := ?_) (a' := ?_) #[true, true, true, true, true, false, false] rfl rfl (by kernel_rfl) (fun _ _ _ h => h) (Or.inl ⟨by rfl, ?_⟩) hHeld ?_ ?_
    rotate_left
    · rintro w' ⟨s0, s1, s2⟩
      go_simp
      with_reducible rfl
    rotate_left
    · simp only [Act.put, List.setIfInBounds_toArray, List.set_cons_zero, List.set_cons_succ, i64_w, i32_w]
      rfl
    refine take_ (i := 5) (N := some 46) (v := ?_) (a' := ?_) #[true, true, true, true, true, true, false] rfl rfl (by kernel_rfl) (fun _ _ _ h => h) (Or.inl ⟨by rfl, ?_⟩) hHeld ?_ ?_
    rotate_left
    · rintro w' ⟨s0, s1, s2⟩
      go_simp
      with_reducible rfl
    rotate_left
    · simp only [Act.put, List.setIfInBounds_toArray, List.set_cons_zero, List.set_cons_succ, i64_w, i32_w]
      rfl
    refine last_ (i := 6) (N := none) #[true, true, true, true, true, true, true] rfl rfl (by kernel_rfl) (by decide) (fun K hK => ?_)
    refine skip_ (w1 := ?_) (by rfl) rfl ?_ ?_
    rotate_left
    · go_simp
      rfl
    refine hK.out _ _ ?_
    clear hK K
    refine done_ (by kernel_rfl) ?_

    go_wp2_with fail
    go_ret
    exact ⟨v, rfl, by rw [HW.out]; exact store_shut HA5.out, HB5.out⟩

set_option maxHeartbeats 4000000 in
set_option maxRecDepth 100000 in
theorem with_rename {B : Nat} {w : World} {p : Nat} {left acts left' acts' : Int} {L L' : List SF} {Ts Ts' : List Th} {r : Int} {x x' : SF} {c1 c2 c3 : Nat} (h : Has B w (storeT p left acts L none :: Ts)) {s : ByteArray} (hs : s.size ≤ 9223372036854775807) (hx : findF L s.data.toList = some x) (hl : left ≠ 0) (hn : L'.length < 1000000)
    (HK : ∀ (A : Option Addr) (c b : Nat) (w1 : World), Has B w1 (storeT p left acts L (some ⟨b, x, A, c⟩) :: Ts) → Calls Try.prog 40 #[ptr b, ptr c1, ptr c2, ptr c3] w1 (CloPost B w1 p b left' acts' L' x' Ts' r)) :
    Calls Try.prog 36 #[ptr p, .string s, .func (.func 40) #[] #[ptr c1, ptr c2, ptr c3]] w (StPost B w p left' acts' (withL L' s x') Ts' r) := by
  have HR := Aside0.mk (refuse_calls h)
  rw [show refuseE left = 0 from if_neg hl] at HR
  obtain ⟨mb, A, c, c0, hrun, -, hA, hB⟩ := look_hit h hs hx true
  have HA := Aside0.mk hA
  have HB := Aside0.mk hB
  have HKK := Aside0.mk HK
  have HS := Aside0.mk hs
  have HN := Aside0.mk hn
  have hu := Try.underlying67
  clear h hA hB HK hs hn hl hx
  go_enter Try.func36, Try.ntmps36
  go_wp2_with fail
  refine HR.out.mono ?_
  rintro e w1 ⟨rfl, rfl⟩
  go_wp2_with fail
  generalize w.alloc (.cells #[.slice A x.f1.length c, .int .i64 x.f2] 67) = w2 at HA HB ⊢
  generalize w.heap.size = b at HA ⊢
  refine (HKK.out A c b w2 HA.out).mono ?_
  rintro e w3 ⟨A', c', rfl, hA, hB⟩
  have HA3 := Aside0.mk hA
  have HB3 := Aside0.mk (HB.out.trans hB)
  clear hA hB HA HB HKK HR hrun c0
  obtain ⟨mb2, d0, hit, miss⟩ := look_run HA3.out HS.out
  cases hf : findF L' s.data.toList with
  | none =>
    have hrun := miss hf
    have HW : Aside0 (withL L' s x' = L') := ⟨by unfold withL; rw [hf]; rfl⟩
    have HB4 := Aside0.mk (HB3.out.alloc HA3.out.size (.cells #[.slice none 0 0, .int .i64 0] 67))
    have HA4 := Aside0.mk (HA3.out.alloc (.cells #[.slice none 0 0, .int .i64 0] 67))
    clear hit miss hf
    go_wp2_with fail
    go_ret
    exact ⟨rfl, by rw [HW.out]; exact store_shut HA4.out, HB4.out⟩
  | some y =>
    obtain ⟨A2, c2, hrun⟩ := hit y hf
    have HW : Aside0 (withL L' s x' = setF L' ⟨s, x'.f1, x'.f2⟩) := ⟨by unfold withL; rw [hf]; rfl⟩
    have HB4 := Aside0.mk (HB3.out.alloc HA3.out.size (.cells #[.slice A2 y.f1.length c2, .int .i64 y.f2] 67))
    have HA4 := Aside0.mk (HA3.out.alloc (.cells #[.slice A2 y.f1.length c2, .int .i64 y.f2] 67))
    clear hit miss hf
    go_wp2_with fail
    generalize w3.alloc (.cells #[.slice A2 y.f1.length c2, .int .i64 y.f2] 67) = w4 at HA4 HB4 ⊢
    clear d0 hrun HA3 HB3
    obtain ⟨mb3, w5, e0, hput, hA5, hB5⟩ := put_run HA4.out.drew HS.out HN.out
    obtain ⟨b0, b1, bf, -, -⟩ := open_cells HA4.out
    dsimp only at b0 b1
    have e0' : w4.cell? ⟨p, 0, none⟩ = some (.map (some mb3)) := e0
    have HA5 := Aside0.mk hA5
    have HB5 := Aside0.mk ((HB4.out.trans (below_drew (Below.refl _ _))).trans hB5)
    clear hA5 hB5 bf e0
    refine start_ (n := 7) (S := fun w' => w'.cell? ⟨p, 0, none⟩ = some (.map (some mb3)) ∧ w'.cell? ⟨b, 0, none⟩ = some (.slice A' x'.f1.length c') ∧ w'.cell? ⟨b, 1, none⟩ = some (.int .i64 x'.f2)) (ds := [6]) #[false, false, false, false, false, false, false] (by kernel_rfl) rfl rfl ⟨e0', b0, b1⟩ (fun hHeld => ?_)
    refine pure_ (i := 0) (N := some 41) (v := ?_) (a' := ?_) #[true, false, false, false, false, false, false] rfl rfl (by kernel_rfl) (fun _ _ _ h => h) (Or.inl ⟨by rfl, ?_⟩) ?_ ?_
    rotate_left
    · intro w'
      go_simp
      with_reducible rfl
    rotate_left
    · simp only [Act.put, List.setIfInBounds_toArray, List.set_cons_zero, List.set_cons_succ, i64_w, i32_w]
      rfl
    refine pure_ (i := 1) (N := some 42) (v := ?_) (a' := ?_) #[true, true, false, false, false, false, false] rfl rfl (by kernel_rfl) (fun _ _ _ h => h) (Or.inl ⟨by rfl, ?_⟩) ?_ ?_
    rotate_left
    · intro w'
      go_simp
      with_reducible rfl
    rotate_left
    · simp only [Act.put, List.setIfInBounds_toArray, List.set_cons_zero, List.set_cons_succ, i64_w, i32_w]
      rfl
    refine pure_ (i := 2) (N := some 43) (v := ?_) (a' := ?_) #[true, true, true, false, false, false, false] rfl rfl (by kernel_rfl) (fun _ _ _ h => h) (Or.inl ⟨by rfl, ?_⟩) ?_ ?_
    rotate_left
    · intro w'
      go_simp
      with_reducible rfl
    rotate_left
    · simp only [Act.put, List.setIfInBounds_toArray, List.set_cons_zero, List.set_cons_succ, i64_w, i32_w]
      rfl
    refine pure_ (i := 4) (N := some 45) (v := ?_) (a' := ?_) #[true, true, true, false, true, false, false] rfl rfl (by kernel_rfl) (fun _ _ _ h => h) (Or.inl ⟨by rfl, ?_⟩) ?_ ?_
    rotate_left
    · intro w'
      go_simp
      with_reducible rfl
    rotate_left
    · simp only [Act.put, List.setIfInBounds_toArray, List.set_cons_zero, List.set_cons_succ, i64_w, i32_w]
      rfl
    refine take_ (i := 3) (N := some 44) (v := ?_) (a' := ?_) #[true, true, true, true, true, false, false] rfl rfl (by kernel_rfl) (fun _ _ _ h => h) (Or.inl ⟨by rfl, ?_⟩) hHeld ?_ ?_
    rotate_left
    · rintro w' ⟨s0, s1, s2⟩
      go_simp
      with_reducible rfl
    rotate_left
    · simp only [Act.put, List.setIfInBounds_toArray, List.set_cons_zero, List.set_cons_succ, i64_w, i32_w]
      rfl
    refine take_ (i := 5) (N := some 46) (v := ?_) (a' := ?_) #[true, true, true, true, true, true, false] rfl rfl (by kernel_rfl) (fun _ _ _ h => h) (Or.inl ⟨by rfl, ?_⟩) hHeld ?_ ?_
    rotate_left
    · rintro w' ⟨s0, s1, s2⟩
      go_simp
      with_reducible rfl
    rotate_left
    · simp only [Act.put, List.setIfInBounds_toArray, List.set_cons_zero, List.set_cons_succ, i64_w, i32_w]
      rfl
    refine last_ (i := 6) (N := none) #[true, true, true, true, true, true, true] rfl rfl (by kernel_rfl) (by decide) (fun K hK => ?_)
    refine skip_ (w1 := ?_) (by rfl) rfl ?_ ?_
    rotate_left
    · go_simp
      rfl
    refine hK.out _ _ ?_
    clear hK K
    refine done_ (by kernel_rfl) ?_

    go_wp2_with fail
    go_ret
    exact ⟨rfl, by rw [HW.out]; exact store_shut HA5.out, HB5.out⟩

set_option maxHeartbeats 4000000 in
set_option maxRecDepth 100000 in
theorem with_remove {B : Nat} {w : World} {p : Nat} {left acts left' acts' : Int} {L L' : List SF} {Ts Ts' : List Th} {r : Int} {x x' : SF} {c1 c2 : Nat} (h : Has B w (storeT p left acts L none :: Ts)) {s : ByteArray} (hs : s.size ≤ 9223372036854775807) (hx : findF L s.data.toList = some x) (hl : left ≠ 0) (hn : L'.length < 1000000)
    (HK : ∀ (A : Option Addr) (c b : Nat) (w1 : World), Has B w1 (storeT p left acts L (some ⟨b, x, A, c⟩) :: Ts) → Calls Try.prog 42 #[ptr b, ptr c1, ptr c2] w1 (CloPost B w1 p b left' acts' L' x' Ts' r)) :
    Calls Try.prog 36 #[ptr p, .string s, .func (.func 42) #[] #[ptr c1, ptr c2]] w (StPost B w p left' acts' (withL L' s x') Ts' r) := by
  have HR := Aside0.mk (refuse_calls h)
  rw [show refuseE left = 0 from if_neg hl] at HR
  obtain ⟨mb, A, c, c0, hrun, -, hA, hB⟩ := look_hit h hs hx true
  have HA := Aside0.mk hA
  have HB := Aside0.mk hB
  have HKK := Aside0.mk HK
  have HS := Aside0.mk hs
  have HN := Aside0.mk hn
  have hu := Try.underlying67
  clear h hA hB HK hs hn hl hx
  go_enter Try.func36, Try.ntmps36
  go_wp2_with fail
  refine HR.out.mono ?_
  rintro e w1 ⟨rfl, rfl⟩
  go_wp2_with fail
  generalize w.alloc (.cells #[.slice A x.f1.length c, .int .i64 x.f2] 67) = w2 at HA HB ⊢
  generalize w.heap.size = b at HA ⊢
  refine (HKK.out A c b w2 HA.out).mono ?_
  rintro e w3 ⟨A', c', rfl, hA, hB⟩
  have HA3 := Aside0.mk hA
  have HB3 := Aside0.mk (HB.out.trans hB)
  clear hA hB HA HB HKK HR hrun c0
  obtain ⟨mb2, d0, hit, miss⟩ := look_run HA3.out HS.out
  cases hf : findF L' s.data.toList with
  | none =>
    have hrun := miss hf
    have HW : Aside0 (withL L' s x' = L') := ⟨by unfold withL; rw [hf]; rfl⟩
    have HB4 := Aside0.mk (HB3.out.alloc HA3.out.size (.cells #[.slice none 0 0, .int .i64 0] 67))
    have HA4 := Aside0.mk (HA3.out.alloc (.cells #[.slice none 0 0, .int .i64 0] 67))
    clear hit miss hf
    go_wp2_with fail
    go_ret
    exact ⟨rfl, by rw [HW.out]; exact store_shut HA4.out, HB4.out⟩
  | some y =>
    obtain ⟨A2, c2, hrun⟩ := hit y hf
    have HW : Aside0 (withL L' s x' = setF L' ⟨s, x'.f1, x'.f2⟩) := ⟨by unfold withL; rw [hf]; rfl⟩
    have HB4 := Aside0.mk (HB3.out.alloc HA3.out.size (.cells #[.slice A2 y.f1.length c2, .int .i64 y.f2] 67))
    have HA4 := Aside0.mk (HA3.out.alloc (.cells #[.slice A2 y.f1.length c2, .int .i64 y.f2] 67))
    clear hit miss hf
    go_wp2_with fail
    generalize w3.alloc (.cells #[.slice A2 y.f1.length c2, .int .i64 y.f2] 67) = w4 at HA4 HB4 ⊢
    clear d0 hrun HA3 HB3
    obtain ⟨mb3, w5, e0, hput, hA5, hB5⟩ := put_run HA4.out.drew HS.out HN.out
    obtain ⟨b0, b1, bf, -, -⟩ := open_cells HA4.out
    dsimp only at b0 b1
    have e0' : w4.cell? ⟨p, 0, none⟩ = some (.map (some mb3)) := e0
    have HA5 := Aside0.mk hA5
    have HB5 := Aside0.mk ((HB4.out.trans (below_drew (Below.refl _ _))).trans hB5)
    clear hA5 hB5 bf e0
    refine start_ (n := 7) (S := fun w' => w'.cell? ⟨p, 0, none⟩ = some (.map (some mb3)) ∧ w'.cell? ⟨b, 0, none⟩ = some (.slice A' x'.f1.length c') ∧ w'.cell? ⟨b, 1, none⟩ = some (.int .i64 x'.f2)) (ds := [6]) #[false, false, false, false, false, false, false] (by kernel_rfl) rfl rfl ⟨e0', b0, b1⟩ (fun hHeld => ?_)
    refine pure_ (i := 0) (N := some 41) (v := ?_) (a' := ?_) #[true, false, false, false, false, false, false] rfl rfl (by kernel_rfl) (fun _ _ _ h => h) (Or.inl ⟨by rfl, ?_⟩) ?_ ?_
    rotate_left
    · intro w'
      go_simp
      with_reducible rfl
    rotate_left
    · simp only [Act.put, List.setIfInBounds_toArray, List.set_cons_zero, List.set_cons_succ, i64_w, i32_w]
      rfl
    refine pure_ (i := 1) (N := some 42) (v := ?_) (a' := ?_) #[true, true, false, false, false, false, false] rfl rfl (by kernel_rfl) (fun _ _ _ h => h) (Or.inl ⟨by rfl, ?_⟩) ?_ ?_
    rotate_left
    · intro w'
      go_simp
      with_reducible rfl
    rotate_left
    · simp only [Act.put, List.setIfInBounds_toArray, List.set_cons_zero, List.set_cons_succ, i64_w, i32_w]
      rfl
    refine pure_ (i := 2) (N := some 43) (v := ?_) (a' := ?_) #[true, true, true, false, false, false, false] rfl rfl (by kernel_rfl) (fun _ _ _ h => h) (Or.inl ⟨by rfl, ?_⟩) ?_ ?_
    rotate_left
    · intro w'
      go_simp
      with_reducible rfl
    rotate_left
    · simp only [Act.put, List.setIfInBounds_toArray, List.set_cons_zero, List.set_cons_succ, i64_w, i32_w]
      rfl
    refine pure_ (i := 4) (N := some 45) (v := ?_) (a' := ?_) #[true, true, true, false, true, false, false] rfl rfl (by kernel_rfl) (fun _ _ _ h => h) (Or.inl ⟨by rfl, ?_⟩) ?_ ?_
    rotate_left
    · intro w'
      go_simp
      with_reducible rfl
    rotate_left
    · simp only [Act.put, List.setIfInBounds_toArray, List.set_cons_zero, List.set_cons_succ, i64_w, i32_w]
      rfl
    refine take_ (i := 3) (N := some 44) (v := ?_) (a' := ?_) #[true, true, true, true, true, false, false] rfl rfl (by kernel_rfl) (fun _ _ _ h => h) (Or.inl ⟨by rfl, ?_⟩) hHeld ?_ ?_
    rotate_left
    · rintro w' ⟨s0, s1, s2⟩
      go_simp
      with_reducible rfl
    rotate_left
    · simp only [Act.put, List.setIfInBounds_toArray, List.set_cons_zero, List.set_cons_succ, i64_w, i32_w]
      rfl
    refine take_ (i := 5) (N := some 46) (v := ?_) (a' := ?_) #[true, true, true, true, true, true, false] rfl rfl (by kernel_rfl) (fun _ _ _ h => h) (Or.inl ⟨by rfl, ?_⟩) hHeld ?_ ?_
    rotate_left
    · rintro w' ⟨s0, s1, s2⟩
      go_simp
      with_reducible rfl
    rotate_left
    · simp only [Act.put, List.setIfInBounds_toArray, List.set_cons_zero, List.set_cons_succ, i64_w, i32_w]
      rfl
    refine last_ (i := 6) (N := none) #[true, true, true, true, true, true, true] rfl rfl (by kernel_rfl) (by decide) (fun K hK => ?_)
    refine skip_ (w1 := ?_) (by rfl) rfl ?_ ?_
    rotate_left
    · go_simp
      rfl
    refine hK.out _ _ ?_
    clear hK K
    refine done_ (by kernel_rfl) ?_

    go_wp2_with fail
    go_ret
    exact ⟨rfl, by rw [HW.out]; exact store_shut HA5.out, HB5.out⟩

set_option maxHeartbeats 4000000 in
set_option maxRecDepth 100000 in
theorem with_synced {B : Nat} {w : World} {p : Nat} {left acts left' acts' : Int} {L L' : List SF} {Ts Ts' : List Th} {r : Int} {x x' : SF} {c1 : Nat} (h : Has B w (storeT p left acts L none :: Ts)) {s : ByteArray} (hs : s.size ≤ 9223372036854775807) (hx : findF L s.data.toList = some x) (hl : left ≠ 0) (hn : L'.length < 1000000)
    (HK : ∀ (A : Option Addr) (c b : Nat) (w1 : World), Has B w1 (storeT p left acts L (some ⟨b, x, A, c⟩) :: Ts) → Calls Try.prog 43 #[ptr b, ptr c1] w1 (CloPost B w1 p b left' acts' L' x' Ts' r)) :
    Calls Try.prog 36 #[ptr p, .string s, .func (.func 43) #[] #[ptr c1]] w (StPost B w p left' acts' (withL L' s x') Ts' r) := by
  have HR := Aside0.mk (refuse_calls h)
  rw [show refuseE left = 0 from if_neg hl] at HR
  obtain ⟨mb, A, c, c0, hrun, -, hA, hB⟩ := look_hit h hs hx true
  have HA := Aside0.mk hA
  have HB := Aside0.mk hB
  have HKK := Aside0.mk HK
  have HS := Aside0.mk hs
  have HN := Aside0.mk hn
  have hu := Try.underlying67
  clear h hA hB HK hs hn hl hx
  go_enter Try.func36, Try.ntmps36
  go_wp2_with fail
  refine HR.out.mono ?_
  rintro e w1 ⟨rfl, rfl⟩
  go_wp2_with fail
  generalize w.alloc (.cells #[.slice A x.f1.length c, .int .i64 x.f2] 67) = w2 at HA HB ⊢
  generalize w.heap.size = b at HA ⊢
  refine (HKK.out A c b w2 HA.out).mono ?_
  rintro e w3 ⟨A', c', rfl, hA, hB⟩
  have HA3 := Aside0.mk hA
  have HB3 := Aside0.mk (HB.out.trans hB)
  clear hA hB HA HB HKK HR hrun c0
  obtain ⟨mb2, d0, hit, miss⟩ := look_run HA3.out HS.out
  cases hf : findF L' s.data.toList with
  | none =>
    have hrun := miss hf
    have HW : Aside0 (withL L' s x' = L') := ⟨by unfold withL; rw [hf]; rfl⟩
    have HB4 := Aside0.mk (HB3.out.alloc HA3.out.size (.cells #[.slice none 0 0, .int .i64 0] 67))
    have HA4 := Aside0.mk (HA3.out.alloc (.cells #[.slice none 0 0, .int .i64 0] 67))
    clear hit miss hf
    go_wp2_with fail
    go_ret
    exact ⟨rfl, by rw [HW.out]; exact store_shut HA4.out, HB4.out⟩
  | some y =>
    obtain ⟨A2, c2, hrun⟩ := hit y hf
    have HW : Aside0 (withL L' s x' = setF L' ⟨s, x'.f1, x'.f2⟩) := ⟨by unfold withL; rw [hf]; rfl⟩
    have HB4 := Aside0.mk (HB3.out.alloc HA3.out.size (.cells #[.slice A2 y.f1.length c2, .int .i64 y.f2] 67))
    have HA4 := Aside0.mk (HA3.out.alloc (.cells #[.slice A2 y.f1.length c2, .int .i64 y.f2] 67))
    clear hit miss hf
    go_wp2_with fail
    generalize w3.alloc (.cells #[.slice A2 y.f1.length c2, .int .i64 y.f2] 67) = w4 at HA4 HB4 ⊢
    clear d0 hrun HA3 HB3
    obtain ⟨mb3, w5, e0, hput, hA5, hB5⟩ := put_run HA4.out.drew HS.out HN.out
    obtain ⟨b0, b1, bf, -, -⟩ := open_cells HA4.out
    dsimp only at b0 b1
    have e0' : w4.cell? ⟨p, 0, none⟩ = some (.map (some mb3)) := e0
    have HA5 := Aside0.mk hA5
    have HB5 := Aside0.mk ((HB4.out.trans (below_drew (Below.refl _ _))).trans hB5)
    clear hA5 hB5 bf e0
    refine start_ (n := 7) (S := fun w' => w'.cell? ⟨p, 0, none⟩ = some (.map (some mb3)) ∧ w'.cell? ⟨b, 0, none⟩ = some (.slice A' x'.f1.length c') ∧ w'.cell? ⟨b, 1, none⟩ = some (.int .i64 x'.f2)) (ds := [6]) #[false, false, false, false, false, false, false] (by kernel_rfl) rfl rfl ⟨e0', b0, b1⟩ (fun hHeld => ?_)
    refine pure_ (i := 0) (N := some 41) (v := ?_) (a' := ?_) #[true, false, false, false, false, false, false] rfl rfl (by kernel_rfl) (fun _ _ _ h => h) (Or.inl ⟨by rfl, ?_⟩) ?_ ?_
    rotate_left
    · intro w'
      go_simp
      with_reducible rfl
    rotate_left
    · simp only [Act.put, List.setIfInBounds_toArray, List.set_cons_zero, List.set_cons_succ, i64_w, i32_w]
      rfl
    refine pure_ (i := 1) (N := some 42) (v := ?_) (a' := ?_) #[true, true, false, false, false, false, false] rfl rfl (by kernel_rfl) (fun _ _ _ h => h) (Or.inl ⟨by rfl, ?_⟩) ?_ ?_
    rotate_left
    · intro w'
      go_simp
      with_reducible rfl
    rotate_left
    · simp only [Act.put, List.setIfInBounds_toArray, List.set_cons_zero, List.set_cons_succ, i64_w, i32_w]
      rfl
    refine pure_ (i := 2) (N := some 43) (v := ?_) (a' := ?_) #[true, true, true, false, false, false, false] rfl rfl (by kernel_rfl) (fun _ _ _ h => h) (Or.inl ⟨by rfl, ?_⟩) ?_ ?_
    rotate_left
    · intro w'
      go_simp
      with_reducible rfl
    rotate_left
    · simp only [Act.put, List.setIfInBounds_toArray, List.set_cons_zero, List.set_cons_succ, i64_w, i32_w]
      rfl
    refine pure_ (i := 4) (N := some 45) (v := ?_) (a' := ?_) #[true, true, true, false, true, false, false] rfl rfl (by kernel_rfl) (fun _ _ _ h => h) (Or.inl ⟨by rfl, ?_⟩) ?_ ?_
    rotate_left
    · intro w'
      go_simp
      with_reducible rfl
    rotate_left
    · simp only [Act.put, List.setIfInBounds_toArray, List.set_cons_zero, List.set_cons_succ, i64_w, i32_w]
      rfl
    refine take_ (i := 3) (N := some 44) (v := ?_) (a' := ?_) #[true, true, true, true, true, false, false] rfl rfl (by kernel_rfl) (fun _ _ _ h => h) (Or.inl ⟨by rfl, ?_⟩) hHeld ?_ ?_
    rotate_left
    · rintro w' ⟨s0, s1, s2⟩
      go_simp
      with_reducible rfl
    rotate_left
    · simp only [Act.put, List.setIfInBounds_toArray, List.set_cons_zero, List.set_cons_succ, i64_w, i32_w]
      rfl
    refine take_ (i := 5) (N := some 46) (v := ?_) (a' := ?_) #[true, true, true, true, true, true, false] rfl rfl (by kernel_rfl) (fun _ _ _ h => h) (Or.inl ⟨by rfl, ?_⟩) hHeld ?_ ?_
    rotate_left
    · rintro w' ⟨s0, s1, s2⟩
      go_simp
      with_reducible rfl
    rotate_left
    · simp only [Act.put, List.setIfInBounds_toArray, List.set_cons_zero, List.set_cons_succ, i64_w, i32_w]
      rfl
    refine last_ (i := 6) (N := none) #[true, true, true, true, true, true, true] rfl rfl (by kernel_rfl) (by decide) (fun K hK => ?_)
    refine skip_ (w1 := ?_) (by rfl) rfl ?_ ?_
    rotate_left
    · go_simp
      rfl
    refine hK.out _ _ ?_
    clear hK K
    refine done_ (by kernel_rfl) ?_

    go_wp2_with fail
    go_ret
    exact ⟨rfl, by rw [HW.out]; exact store_shut HA5.out, HB5.out⟩

set_option maxHeartbeats 4000000 in
set_option maxRecDepth 100000 in
theorem with_size {B : Nat} {w : World} {p : Nat} {left acts left' acts' : Int} {L L' : List SF} {Ts Ts' : List Th} {r : Int} {x x' : SF} {c1 : Nat} (h : Has B w (storeT p left acts L none :: Ts)) {s : ByteArray} (hs : s.size ≤ 9223372036854775807) (hx : findF L s.data.toList = some x) (hl : left ≠ 0) (hn : L'.length < 1000000)
    (HK : ∀ (A : Option Addr) (c b : Nat) (w1 : World), Has B w1 (storeT p left acts L (some ⟨b, x, A, c⟩) :: Ts) → Calls Try.prog 54 #[ptr b, ptr c1] w1 (CloPost B w1 p b left' acts' L' x' Ts' r)) :
    Calls Try.prog 36 #[ptr p, .string s, .func (.func 54) #[] #[ptr c1]] w (StPost B w p left' acts' (withL L' s x') Ts' r) := by
  have HR := Aside0.mk (refuse_calls h)
  rw [show refuseE left = 0 from if_neg hl] at HR
  obtain ⟨mb, A, c, c0, hrun, -, hA, hB⟩ := look_hit h hs hx true
  have HA := Aside0.mk hA
  have HB := Aside0.mk hB
  have HKK := Aside0.mk HK
  have HS := Aside0.mk hs
  have HN := Aside0.mk hn
  have hu := Try.underlying67
  clear h hA hB HK hs hn hl hx
  go_enter Try.func36, Try.ntmps36
  go_wp2_with fail
  refine HR.out.mono ?_
  rintro e w1 ⟨rfl, rfl⟩
  go_wp2_with fail
  generalize w.alloc (.cells #[.slice A x.f1.length c, .int .i64 x.f2] 67) = w2 at HA HB ⊢
  generalize w.heap.size = b at HA ⊢
  refine (HKK.out A c b w2 HA.out).mono ?_
  rintro e w3 ⟨A', c', rfl, hA, hB⟩
  have HA3 := Aside0.mk hA
  have HB3 := Aside0.mk (HB.out.trans hB)
  clear hA hB HA HB HKK HR hrun c0
  obtain ⟨mb2, d0, hit, miss⟩ := look_run HA3.out HS.out
  cases hf : findF L' s.data.toList with
  | none =>
    have hrun := miss hf
    have HW : Aside0 (withL L' s x' = L') := ⟨by unfold withL; rw [hf]; rfl⟩
    have HB4 := Aside0.mk (HB3.out.alloc HA3.out.size (.cells #[.slice none 0 0, .int .i64 0] 67))
    have HA4 := Aside0.mk (HA3.out.alloc (.cells #[.slice none 0 0, .int .i64 0] 67))
    clear hit miss hf
    go_wp2_with fail
    go_ret
    exact ⟨rfl, by rw [HW.out]; exact store_shut HA4.out, HB4.out⟩
  | some y =>
    obtain ⟨A2, c2, hrun⟩ := hit y hf
    have HW : Aside0 (withL L' s x' = setF L' ⟨s, x'.f1, x'.f2⟩) := ⟨by unfold withL; rw [hf]; rfl⟩
    have HB4 := Aside0.mk (HB3.out.alloc HA3.out.size (.cells #[.slice A2 y.f1.length c2, .int .i64 y.f2] 67))
    have HA4 := Aside0.mk (HA3.out.alloc (.cells #[.slice A2 y.f1.length c2, .int .i64 y.f2] 67))
    clear hit miss hf
    go_wp2_with fail
    generalize w3.alloc (.cells #[.slice A2 y.f1.length c2, .int .i64 y.f2] 67) = w4 at HA4 HB4 ⊢
    clear d0 hrun HA3 HB3
    obtain ⟨mb3, w5, e0, hput, hA5, hB5⟩ := put_run HA4.out.drew HS.out HN.out
    obtain ⟨b0, b1, bf, -, -⟩ := open_cells HA4.out
    dsimp only at b0 b1
    have e0' : w4.cell? ⟨p, 0, none⟩ = some (.map (some mb3)) := e0
    have HA5 := Aside0.mk hA5
    have HB5 := Aside0.mk ((HB4.out.trans (below_drew (Below.refl _ _))).trans hB5)
    clear hA5 hB5 bf e0
    refine start_ (n := 7) (S := fun w' => w'.cell? ⟨p, 0, none⟩ = some (.map (some mb3)) ∧ w'.cell? ⟨b, 0, none⟩ = some (.slice A' x'.f1.length c') ∧ w'.cell? ⟨b, 1, none⟩ = some (.int .i64 x'.f2)) (ds := [6]) #[false, false, false, false, false, false, false] (by kernel_rfl) rfl rfl ⟨e0', b0, b1⟩ (fun hHeld => ?_)
    refine pure_ (i := 0) (N := some 41) (v := ?_) (a' := ?_) #[true, false, false, false, false, false, false] rfl rfl (by kernel_rfl) (fun _ _ _ h => h) (Or.inl ⟨by rfl, ?_⟩) ?_ ?_
    rotate_left
    · intro w'
      go_simp
      with_reducible rfl
    rotate_left
    · simp only [Act.put, List.setIfInBounds_toArray, List.set_cons_zero, List.set_cons_succ, i64_w, i32_w]
      rfl
    refine pure_ (i := 1) (N := some 42) (v := ?_) (a' := ?_) #[true, true, false, false, false, false, false] rfl rfl (by kernel_rfl) (fun _ _ _ h => h) (Or.inl ⟨by rfl, ?_⟩) ?_ ?_
    rotate_left
    · intro w'
      go_simp
      with_reducible rfl
    rotate_left
    · simp only [Act.put, List.setIfInBounds_toArray, List.set_cons_zero, List.set_cons_succ, i64_w, i32_w]
      rfl
    refine pure_ (i := 2) (N := some 43) (v := ?_) (a' := ?_) #[true, true, true, false, false, false, false] rfl rfl (by kernel_rfl) (fun _ _ _ h => h) (Or.inl ⟨by rfl, ?_⟩) ?_ ?_
    rotate_left
    · intro w'
      go_simp
      with_reducible rfl
    rotate_left
    · simp only [Act.put, List.setIfInBounds_toArray, List.set_cons_zero, List.set_cons_succ, i64_w, i32_w]
      rfl
    refine pure_ (i := 4) (N := some 45) (v := ?_) (a' := ?_) #[true, true, true, false, true, false, false] rfl rfl (by kernel_rfl) (fun _ _ _ h => h) (Or.inl ⟨by rfl, ?_⟩) ?_ ?_
    rotate_left
    · intro w'
      go_simp
      with_reducible rfl
    rotate_left
    · simp only [Act.put, List.setIfInBounds_toArray, List.set_cons_zero, List.set_cons_succ, i64_w, i32_w]
      rfl
    refine take_ (i := 3) (N := some 44) (v := ?_) (a' := ?_) #[true, true, true, true, true, false, false] rfl rfl (by kernel_rfl) (fun _ _ _ h => h) (Or.inl ⟨by rfl, ?_⟩) hHeld ?_ ?_
    rotate_left
    · rintro w' ⟨s0, s1, s2⟩
      go_simp
      with_reducible rfl
    rotate_left
    · simp only [Act.put, List.setIfInBounds_toArray, List.set_cons_zero, List.set_cons_succ, i64_w, i32_w]
      rfl
    refine take_ (i := 5) (N := some 46) (v := ?_) (a' := ?_) #[true, true, true, true, true, true, false] rfl rfl (by kernel_rfl) (fun _ _ _ h => h) (Or.inl ⟨by rfl, ?_⟩) hHeld ?_ ?_
    rotate_left
    · rintro w' ⟨s0, s1, s2⟩
      go_simp
      with_reducible rfl
    rotate_left
    · simp only [Act.put, List.setIfInBounds_toArray, List.set_cons_zero, List.set_cons_succ, i64_w, i32_w]
      rfl
    refine last_ (i := 6) (N := none) #[true, true, true, true, true, true, true] rfl rfl (by kernel_rfl) (by decide) (fun K hK => ?_)
    refine skip_ (w1 := ?_) (by rfl) rfl ?_ ?_
    rotate_left
    · go_simp
      rfl
    refine hK.out _ _ ?_
    clear hK K
    refine done_ (by kernel_rfl) ?_

    go_wp2_with fail
    go_ret
    exact ⟨rfl, by rw [HW.out]; exact store_shut HA5.out, HB5.out⟩
end Go.Proofs.Ytibnakpefjjoiaa.Fs
namespace Go.Proofs.Ytibnakpefjjoiaa.Fs
open Go.RowKit Go.Proofs.YtibnakpefjjoiaaW.PrintWords Go.Proofs.YtibnakpefjjoiaaW.PrintLast Go.Proofs.YtibnakpefjjoiaaW.PrintMore Go.Proofs.Ytibnakpefjjoiaa.Q Go.Proofs.Ytibnakpefjjoiaa.Own
set_option linter.unusedVariables false
set_option linter.unusedSimpArgs false
attribute [local go_sem ↓] Go.wp_at_zero Go.wp_at_succ

theorem box_at {B : Nat} {w : World} {T : Th} {Ts : List Th} {b : Nat} {cs : Array Value} {t : TypeId} (h : Has B w (T :: boxT b cs t :: Ts)) : (∀ i, w.cell? ⟨b, i, none⟩ = cs[i]?) ∧ (∀ i, w.frozen? ⟨b, i, none⟩ = false) := by
  obtain ⟨q1, q2, -, -⟩ := Has.box_cell h (b := b) (cs := cs) (t := t) (by simp)
  exact ⟨q1, q2⟩
set_option maxHeartbeats 2000000 in
set_option maxRecDepth 100000 in
theorem clo_sync {B : Nat} {w : World} {p b c1 : Nat} {left acts : Int} {L : List SF} {x : SF} {A : Option Addr} {c : Nat} {Ts : List Th} (h : Has B w (storeT p left acts L (some ⟨b, x, A, c⟩) :: boxT c1 #[ptr p] 24 :: Ts)) (ha : 0 ≤ acts) (hb : acts < 1000000) (hw : -1 ≤ left) (hw2 : left ≤ 9223372036854775807) :
    Calls Try.prog 41 #[ptr b, ptr c1] w (CloPost B w p b (leftF left) (acts + 1) L ⟨x.f0, x.f1, (x.f1.length : Int)⟩ (boxT c1 #[ptr p] 24 :: Ts) 0) := by
  obtain ⟨b0, b1, bf, -, -⟩ := open_cells h
  obtain ⟨hset, -⟩ := open_set h
  obtain ⟨hA, hB⟩ := hset (x.f1.length : Int)
  dsimp only at b0 b1 bf hA hB
  have f1 := bf 1
  obtain ⟨qa, -⟩ := box_at hA
  have q0 : (w.setCell ⟨b, 1, none⟩ (.int .i64 (x.f1.length : Int))).cell? ⟨c1, 0, none⟩ = some (ptr p) := qa 0
  have HA := Aside0.mk hA
  have HB := Aside0.mk hB
  have HACT := Aside0.mk (act_calls hA ha hb hw hw2)
  clear h hset hA hB qa bf ha hb hw hw2
  go_enter Try.func41, Try.ntmps41
  go_wp2_with fail
  refine HACT.out.mono ?_
  rintro e w2 ⟨rfl, hA, hB⟩
  have HA2 := Aside0.mk hA
  have HB2 := Aside0.mk (HB.out.trans hB)
  clear hA hB
  go_wp2_with fail
  go_ret
  exact ⟨A, c, rfl, HA2.out, HB2.out⟩
set_option maxHeartbeats 2000000 in
set_option maxRecDepth 100000 in
theorem clo_size {B : Nat} {w : World} {p b c1 : Nat} {left acts y : Int} {L : List SF} {x : SF} {A : Option Addr} {c : Nat} {Ts : List Th} (h : Has B w (storeT p left acts L (some ⟨b, x, A, c⟩) :: boxT c1 #[.int .i64 y] 3 :: Ts)) :
    Calls Try.prog 54 #[ptr b, ptr c1] w (CloPost B w p b left acts L x (boxT c1 #[.int .i64 (x.f1.length : Int)] 3 :: Ts) 0) := by
  obtain ⟨b0, b1, bf, -, -⟩ := open_cells h
  obtain ⟨qa, qf⟩ := box_at h
  have q0 : w.cell? ⟨c1, 0, none⟩ = some (.int .i64 y) := qa 0
  have f0 := qf 0
  obtain ⟨hA, hB⟩ := h.swap.box_set 0 (.int .i64 (x.f1.length : Int))
  have HA := Aside0.mk hA.swap
  have HB := Aside0.mk hB
  dsimp only at b0 b1
  clear h hA hB qa qf bf
  go_enter Try.func54, Try.ntmps54
  go_wp2_with fail
  go_ret
  exact ⟨A, c, rfl, HA.out, HB.out⟩
set_option maxHeartbeats 2000000 in
set_option maxRecDepth 100000 in
theorem clo_synced {B : Nat} {w : World} {p b c1 : Nat} {left acts y : Int} {L : List SF} {x : SF} {A : Option Addr} {c : Nat} {Ts : List Th} (h : Has B w (storeT p left acts L (some ⟨b, x, A, c⟩) :: boxT c1 #[.int .i64 y] 3 :: Ts)) :
    Calls Try.prog 43 #[ptr b, ptr c1] w (CloPost B w p b left acts L x (boxT c1 #[.int .i64 x.f2] 3 :: Ts) 0) := by
  obtain ⟨b0, b1, bf, -, -⟩ := open_cells h
  obtain ⟨qa, qf⟩ := box_at h
  have q0 : w.cell? ⟨c1, 0, none⟩ = some (.int .i64 y) := qa 0
  have f0 := qf 0
  obtain ⟨hA, hB⟩ := h.swap.box_set 0 (.int .i64 x.f2)
  have HA := Aside0.mk hA.swap
  have HB := Aside0.mk hB
  dsimp only at b0 b1
  clear h hA hB qa qf bf
  go_enter Try.func43, Try.ntmps43
  go_wp2_with fail
  go_ret
  exact ⟨A, c, rfl, HA.out, HB.out⟩
end Go.Proofs.Ytibnakpefjjoiaa.Fs
namespace Go.Proofs.Ytibnakpefjjoiaa.Fs
open Go.RowKit Go.Proofs.YtibnakpefjjoiaaW.PrintWords Go.Proofs.YtibnakpefjjoiaaW.PrintLast Go.Proofs.YtibnakpefjjoiaaW.PrintMore Go.Proofs.Ytibnakpefjjoiaa.Q Go.Proofs.Ytibnakpefjjoiaa.Own
set_option linter.unusedVariables false
set_option linter.unusedSimpArgs false
attribute [local go_sem ↓] Go.wp_at_zero Go.wp_at_succ

abbrev stT (c : Nat) (p : Nat) : Th := boxT c #[ptr p] 24
abbrev nmT (c : Nat) (s : ByteArray) : Th := boxT c #[.string s] 9
theorem box_mem {B : Nat} {w : World} {Ts : List Th} {b : Nat} {cs : Array Value} {t : TypeId} (h : Has B w Ts) (hm : boxT b cs t ∈ Ts) : ∀ i, w.cell? ⟨b, i, none⟩ = cs[i]? := (Has.box_cell h hm).1
set_option maxHeartbeats 2000000 in
set_option maxRecDepth 100000 in
theorem clo_remove {B : Nat} {w : World} {p b c1 c2 : Nat} {left acts : Int} {L : List SF} {x : SF} {A : Option Addr} {c : Nat} {Ts : List Th} {s : ByteArray} (hs : s.size ≤ 9223372036854775807) (h : Has B w (storeT p left acts L (some ⟨b, x, A, c⟩) :: stT c1 p :: nmT c2 s :: Ts)) (ha : 0 ≤ acts) (hb : acts < 1000000) (hw : -1 ≤ left) (hw2 : left ≤ 9223372036854775807) :
    Calls Try.prog 42 #[ptr b, ptr c1, ptr c2] w (CloPost B w p b (leftF left) (acts + 1) (cutF L s.data.toList) x (stT c1 p :: nmT c2 s :: Ts) 0) := by
  have q1 : w.cell? ⟨c1, 0, none⟩ = some (ptr p) := box_mem h (b := c1) (cs := #[ptr p]) (t := 24) (by simp) 0
  have q2 : w.cell? ⟨c2, 0, none⟩ = some (.string s) := box_mem h (b := c2) (cs := #[.string s]) (t := 9) (by simp) 0
  obtain ⟨mb, w2, c0, hdel, hA, hB⟩ := del_run h.drew hs 0
  have q0 : w.cell? ⟨p, 0, none⟩ = some (.map (some mb)) := c0
  have r1 : w2.cell? ⟨c1, 0, none⟩ = some (ptr p) := box_mem hA (b := c1) (cs := #[ptr p]) (t := 24) (by simp) 0
  have r2 : w2.cell? ⟨c2, 0, none⟩ = some (.string s) := box_mem hA (b := c2) (cs := #[.string s]) (t := 9) (by simp) 0
  have HB : Aside0 (Below B w w2) := ⟨Below.trans (below_drew (Below.refl _ _)) hB⟩
  have HACT := Aside0.mk (act_calls hA ha hb hw hw2)
  clear h hA hB ha hb hw hw2 c0 hs
  go_enter Try.func42, Try.ntmps42
  go_wp2_with fail
  refine start_ (n := 6) (S := fun w' => w'.cell? ⟨c1, 0, none⟩ = some (ptr p) ∧ w'.cell? ⟨p, 0, none⟩ = some (.map (some mb)) ∧ w'.cell? ⟨c2, 0, none⟩ = some (.string s)) (ds := [5]) #[false, false, false, false, false, false] (by kernel_rfl) rfl rfl ⟨q1, q0, q2⟩ (fun hHeld => ?_)
  refine take_ (i := 0) (N := some 5) (v := ?_) (a' := ?_) #[true, false, false, false, false, false] rfl rfl (by kernel_rfl) (fun _ _ _ h => h) (Or.inl ⟨by rfl, ?_⟩) hHeld ?_ ?_
  rotate_left
  · rintro w' ⟨s0, s1, s2⟩
    go_simp
    with_reducible rfl
  rotate_left
  · simp only [Act.put, List.setIfInBounds_toArray, List.set_cons_zero, List.set_cons_succ, i64_w, i32_w]
    rfl
  refine pure_ (i := 1) (N := some 6) (v := ?_) (a' := ?_) #[true, true, false, false, false, false] rfl rfl (by kernel_rfl) (fun _ _ _ h => h) (Or.inl ⟨by rfl, ?_⟩) ?_ ?_
  rotate_left
  · intro w'
    go_simp
    with_reducible rfl
  rotate_left
  · simp only [Act.put, List.setIfInBounds_toArray, List.set_cons_zero, List.set_cons_succ, i64_w, i32_w]
    rfl
  refine pure_ (i := 2) (N := some 7) (v := ?_) (a' := ?_) #[true, true, true, false, false, false] rfl rfl (by kernel_rfl) (fun _ _ _ h => h) (Or.inl ⟨by rfl, ?_⟩) ?_ ?_
  rotate_left
  · intro w'
    go_simp
    with_reducible rfl
  rotate_left
  · simp only [Act.put, List.setIfInBounds_toArray, List.set_cons_zero, List.set_cons_succ, i64_w, i32_w]
    rfl
  refine take_ (i := 3) (N := some 8) (v := ?_) (a' := ?_) #[true, true, true, true, false, false] rfl rfl (by kernel_rfl) (fun _ _ _ h => h) (Or.inl ⟨by rfl, ?_⟩) hHeld ?_ ?_
  rotate_left
  · rintro w' ⟨s0, s1, s2⟩
    go_simp
    with_reducible rfl
  rotate_left
  · simp only [Act.put, List.setIfInBounds_toArray, List.set_cons_zero, List.set_cons_succ, i64_w, i32_w]
    rfl
  refine take_ (i := 4) (N := some 9) (v := ?_) (a' := ?_) #[true, true, true, true, true, false] rfl rfl (by kernel_rfl) (fun _ _ _ h => h) (Or.inl ⟨by rfl, ?_⟩) hHeld ?_ ?_
  rotate_left
  · rintro w' ⟨s0, s1, s2⟩
    go_simp
    with_reducible rfl
  rotate_left
  · simp only [Act.put, List.setIfInBounds_toArray, List.set_cons_zero, List.set_cons_succ, i64_w, i32_w]
    rfl
  refine last_ (i := 5) (N := none) #[true, true, true, true, true, true] rfl rfl (by kernel_rfl) (by decide) (fun K hK => ?_)
  refine value_ (w1 := ?_) (v := ?_) (by rfl) rfl ?_ ?_
  rotate_left 2
  · go_simp
    constructor
    · rfl
    · rfl
  refine hK.out _ _ ?_
  clear hK K
  refine done_ (by kernel_rfl) ?_

  clear q0 q1 q2 hdel
  go_wp2_with fail
  refine HACT.out.mono ?_
  rintro e w3 ⟨rfl, hA, hB⟩
  have HA3 := Aside0.mk hA
  have HB3 := Aside0.mk (HB.out.trans hB)
  clear hA hB
  go_wp2_with fail
  go_ret
  exact ⟨A, c, rfl, HA3.out, HB3.out⟩
def mayF (s : ByteArray) : Bool := decide (1 ≤ s.size ∧ s.size ≤ 32)
theorem may_calls {s : ByteArray} (hs : s.size ≤ 9223372036854775807) (w : World) : Calls Try.prog 31 #[.string s] w fun e w' => e = .returned (.bool (mayF s)) ∧ Drawn0 w w' := by
  refine files_may.calls s _ w ?_
  unfold files_may.f mayF
  by_cases h0 : s.toList = []
  · rw [if_pos h0]
    have : s.size = 0 := by rw [ByteArray.toList_eq] at h0; show s.data.size = 0; rw [← Array.length_toList, h0]; rfl
    rw [decide_eq_false (by omega)]
  · rw [if_neg h0]
    have : s.size ≠ 0 := fun e => h0 (by rw [ByteArray.toList_eq]; exact List.eq_nil_of_length_eq_zero (by rw [Array.length_toList]; exact e))
    congr 1
    rw [decide_eq_decide]
    omega
set_option maxHeartbeats 4000000 in
set_option maxRecDepth 100000 in
theorem clo_rename {B : Nat} {w : World} {p b c1 c2 c3 : Nat} {left acts : Int} {L : List SF} {x : SF} {A : Option Addr} {c : Nat} {Ts : List Th} {s old : ByteArray} (hs : s.size ≤ 9223372036854775807) (ho : old.size ≤ 9223372036854775807) (h : Has B w (storeT p left acts L (some ⟨b, x, A, c⟩) :: nmT c1 s :: stT c2 p :: nmT c3 old :: Ts)) (ha : 0 ≤ acts) (hb : acts < 1000000) (hw : -1 ≤ left) (hw2 : left ≤ 9223372036854775807) (hn : L.length < 1000000) (hm : mayF s = true) :
    Calls Try.prog 40 #[ptr b, ptr c1, ptr c2, ptr c3] w (CloPost B w p b (leftF left) (acts + 1) (setF (cutF L old.data.toList) ⟨s, x.f1, x.f2⟩) x (nmT c1 s :: stT c2 p :: nmT c3 old :: Ts) 0) := by
  have HMY := Aside0.mk (may_calls hs w)
  rw [hm] at HMY
  have m1 : w.cell? ⟨c1, 0, none⟩ = some (.string s) := box_mem h (b := c1) (cs := #[.string s]) (t := 9) (by simp) 0
  have HH := Aside0.mk h
  have HS := Aside0.mk hs
  have HO := Aside0.mk ho
  have HL : Aside0 ((cutF L old.data.toList).length < 1000000) := ⟨by
    have := List.length_filter_le (fun y : SF => nameL y != old.data.toList) L
    unfold cutF
    omega⟩
  clear h hs ho hm hn
  go_enter Try.func40, Try.ntmps40
  go_wp2_with fail
  refine HMY.out.mono ?_
  rintro e w1 ⟨rfl, hd⟩
  obtain ⟨nd, rfl⟩ := hd.out
  have HH1 := Aside0.mk (HH.out.drewN nd)
  have HB1 : Aside0 (Below B w (w.drewN nd)) := ⟨⟨rfl, rfl, rfl, Nat.le_refl _, fun _ _ => rfl⟩⟩
  clear hd m1 HMY HH
  generalize w.drewN nd = w1 at HH1 HB1 ⊢
  go_wp2_with fail
  have m2 : w1.cell? ⟨c2, 0, none⟩ = some (ptr p) := box_mem HH1.out (b := c2) (cs := #[ptr p]) (t := 24) (by simp) 0
  have m3 : w1.cell? ⟨c3, 0, none⟩ = some (.string old) := box_mem HH1.out (b := c3) (cs := #[.string old]) (t := 9) (by simp) 0
  obtain ⟨mb, w2, c0, hdel, hA, hB⟩ := del_run HH1.out.drew HO.out 0
  have q0 : w1.cell? ⟨p, 0, none⟩ = some (.map (some mb)) := c0
  have HA2 := Aside0.mk hA
  have HB2 := Aside0.mk ((HB1.out.trans (below_drew (Below.refl _ _))).trans hB)
  clear hA hB c0
  refine start_ (n := 6) (S := fun w' => w'.cell? ⟨c2, 0, none⟩ = some (ptr p) ∧ w'.cell? ⟨p, 0, none⟩ = some (.map (some mb)) ∧ w'.cell? ⟨c3, 0, none⟩ = some (.string old)) (ds := [5]) #[false, false, false, false, false, false] (by kernel_rfl) rfl rfl ⟨m2, q0, m3⟩ (fun hHeld => ?_)
  refine take_ (i := 0) (N := some 9) (v := ?_) (a' := ?_) #[true, false, false, false, false, false] rfl rfl (by kernel_rfl) (fun _ _ _ h => h) (Or.inl ⟨by rfl, ?_⟩) hHeld ?_ ?_
  rotate_left
  · rintro w' ⟨s0, s1, s2⟩
    go_simp
    with_reducible rfl
  rotate_left
  · simp only [Act.put, List.setIfInBounds_toArray, List.set_cons_zero, List.set_cons_succ, i64_w, i32_w]
    rfl
  refine pure_ (i := 1) (N := some 10) (v := ?_) (a' := ?_) #[true, true, false, false, false, false] rfl rfl (by kernel_rfl) (fun _ _ _ h => h) (Or.inl ⟨by rfl, ?_⟩) ?_ ?_
  rotate_left
  · intro w'
    go_simp
    with_reducible rfl
  rotate_left
  · simp only [Act.put, List.setIfInBounds_toArray, List.set_cons_zero, List.set_cons_succ, i64_w, i32_w]
    rfl
  refine pure_ (i := 2) (N := some 11) (v := ?_) (a' := ?_) #[true, true, true, false, false, false] rfl rfl (by kernel_rfl) (fun _ _ _ h => h) (Or.inl ⟨by rfl, ?_⟩) ?_ ?_
  rotate_left
  · intro w'
    go_simp
    with_reducible rfl
  rotate_left
  · simp only [Act.put, List.setIfInBounds_toArray, List.set_cons_zero, List.set_cons_succ, i64_w, i32_w]
    rfl
  refine take_ (i := 3) (N := some 12) (v := ?_) (a' := ?_) #[true, true, true, true, false, false] rfl rfl (by kernel_rfl) (fun _ _ _ h => h) (Or.inl ⟨by rfl, ?_⟩) hHeld ?_ ?_
  rotate_left
  · rintro w' ⟨s0, s1, s2⟩
    go_simp
    with_reducible rfl
  rotate_left
  · simp only [Act.put, List.setIfInBounds_toArray, List.set_cons_zero, List.set_cons_succ, i64_w, i32_w]
    rfl
  refine take_ (i := 4) (N := some 13) (v := ?_) (a' := ?_) #[true, true, true, true, true, false] rfl rfl (by kernel_rfl) (fun _ _ _ h => h) (Or.inl ⟨by rfl, ?_⟩) hHeld ?_ ?_
  rotate_left
  · rintro w' ⟨s0, s1, s2⟩
    go_simp
    with_reducible rfl
  rotate_left
  · simp only [Act.put, List.setIfInBounds_toArray, List.set_cons_zero, List.set_cons_succ, i64_w, i32_w]
    rfl
  refine last_ (i := 5) (N := none) #[true, true, true, true, true, true] rfl rfl (by kernel_rfl) (by decide) (fun K hK => ?_)
  refine value_ (w1 := ?_) (v := ?_) (by rfl) rfl ?_ ?_
  rotate_left 2
  · go_simp
    constructor
    · rfl
    · rfl
  refine hK.out _ _ ?_
  clear hK K
  refine done_ (by kernel_rfl) ?_

  clear m2 q0 m3 hdel HH1 HB1
  go_wp2_with fail
  have m1 : w2.cell? ⟨c1, 0, none⟩ = some (.string s) := box_mem HA2.out (b := c1) (cs := #[.string s]) (t := 9) (by simp) 0
  have m2 : w2.cell? ⟨c2, 0, none⟩ = some (ptr p) := box_mem HA2.out (b := c2) (cs := #[ptr p]) (t := 24) (by simp) 0
  obtain ⟨b0, b1, -, -, -⟩ := open_cells HA2.out
  dsimp only at b0 b1
  obtain ⟨mb3, w5, e0, hput, hA, hB⟩ := put_run HA2.out.drew HS.out HL.out
  have q0 : w2.cell? ⟨p, 0, none⟩ = some (.map (some mb3)) := e0
  have r2 : w5.cell? ⟨c2, 0, none⟩ = some (ptr p) := box_mem hA (b := c2) (cs := #[ptr p]) (t := 24) (by simp) 0
  have HB5 := Aside0.mk ((HB2.out.trans (below_drew (Below.refl _ _))).trans hB)
  have HACT := Aside0.mk (act_calls hA ha hb hw hw2)
  clear hA hB e0
  refine start_ (n := 9) (S := fun w' => w'.cell? ⟨c2, 0, none⟩ = some (ptr p) ∧ w'.cell? ⟨p, 0, none⟩ = some (.map (some mb3)) ∧ w'.cell? ⟨c1, 0, none⟩ = some (.string s) ∧ w'.cell? ⟨b, 0, none⟩ = some (.slice A x.f1.length c) ∧ w'.cell? ⟨b, 1, none⟩ = some (.int .i64 x.f2)) (ds := [8]) #[false, false, false, false, false, false, false, false, false] (by kernel_rfl) rfl rfl ⟨m2, q0, m1, b0, b1⟩ (fun hHeld => ?_)
  refine pure_ (i := 5) (N := some 19) (v := ?_) (a' := ?_) #[false, false, false, false, false, true, false, false, false] rfl rfl (by kernel_rfl) (fun _ _ _ h => h) (Or.inl ⟨by rfl, ?_⟩) ?_ ?_
  rotate_left
  · intro w'
    go_simp
    with_reducible rfl
  rotate_left
  · simp only [Act.put, List.setIfInBounds_toArray, List.set_cons_zero, List.set_cons_succ, i64_w, i32_w]
    rfl
  refine pure_ (i := 6) (N := some 20) (v := ?_) (a' := ?_) #[false, false, false, false, false, true, true, false, false] rfl rfl (by kernel_rfl) (fun _ _ _ h => h) (Or.inl ⟨by rfl, ?_⟩) ?_ ?_
  rotate_left
  · intro w'
    go_simp
    with_reducible rfl
  rotate_left
  · simp only [Act.put, List.setIfInBounds_toArray, List.set_cons_zero, List.set_cons_succ, i64_w, i32_w]
    rfl
  refine take_ (i := 0) (N := some 14) (v := ?_) (a' := ?_) #[true, false, false, false, false, true, true, false, false] rfl rfl (by kernel_rfl) (fun _ _ _ h => h) (Or.inl ⟨by rfl, ?_⟩) hHeld ?_ ?_
  rotate_left
  · rintro w' ⟨s0, s1, s2, s3, s4⟩
    go_simp
    with_reducible rfl
  rotate_left
  · simp only [Act.put, List.setIfInBounds_toArray, List.set_cons_zero, List.set_cons_succ, i64_w, i32_w]
    rfl
  refine pure_ (i := 1) (N := some 15) (v := ?_) (a' := ?_) #[true, true, false, false, false, true, true, false, false] rfl rfl (by kernel_rfl) (fun _ _ _ h => h) (Or.inl ⟨by rfl, ?_⟩) ?_ ?_
  rotate_left
  · intro w'
    go_simp
    with_reducible rfl
  rotate_left
  · simp only [Act.put, List.setIfInBounds_toArray, List.set_cons_zero, List.set_cons_succ, i64_w, i32_w]
    rfl
  refine pure_ (i := 2) (N := some 16) (v := ?_) (a' := ?_) #[true, true, true, false, false, true, true, false, false] rfl rfl (by kernel_rfl) (fun _ _ _ h => h) (Or.inl ⟨by rfl, ?_⟩) ?_ ?_
  rotate_left
  · intro w'
    go_simp
    with_reducible rfl
  rotate_left
  · simp only [Act.put, List.setIfInBounds_toArray, List.set_cons_zero, List.set_cons_succ, i64_w, i32_w]
    rfl
  refine take_ (i := 3) (N := some 17) (v := ?_) (a' := ?_) #[true, true, true, true, false, true, true, false, false] rfl rfl (by kernel_rfl) (fun _ _ _ h => h) (Or.inl ⟨by rfl, ?_⟩) hHeld ?_ ?_
  rotate_left
  · rintro w' ⟨s0, s1, s2, s3, s4⟩
    go_simp
    with_reducible rfl
  rotate_left
  · simp only [Act.put, List.setIfInBounds_toArray, List.set_cons_zero, List.set_cons_succ, i64_w, i32_w]
    rfl
  refine take_ (i := 4) (N := some 18) (v := ?_) (a' := ?_) #[true, true, true, true, true, true, true, false, false] rfl rfl (by kernel_rfl) (fun _ _ _ h => h) (Or.inl ⟨by rfl, ?_⟩) hHeld ?_ ?_
  rotate_left
  · rintro w' ⟨s0, s1, s2, s3, s4⟩
    go_simp
    with_reducible rfl
  rotate_left
  · simp only [Act.put, List.setIfInBounds_toArray, List.set_cons_zero, List.set_cons_succ, i64_w, i32_w]
    rfl
  refine take_ (i := 7) (N := some 21) (v := ?_) (a' := ?_) #[true, true, true, true, true, true, true, true, false] rfl rfl (by kernel_rfl) (fun _ _ _ h => h) (Or.inl ⟨by rfl, ?_⟩) hHeld ?_ ?_
  rotate_left
  · rintro w' ⟨s0, s1, s2, s3, s4⟩
    go_simp
    with_reducible rfl
  rotate_left
  · simp only [Act.put, List.setIfInBounds_toArray, List.set_cons_zero, List.set_cons_succ, i64_w, i32_w]
    rfl
  refine last_ (i := 8) (N := none) #[true, true, true, true, true, true, true, true, true] rfl rfl (by kernel_rfl) (by decide) (fun K hK => ?_)
  refine skip_ (w1 := ?_) (by rfl) rfl ?_ ?_
  rotate_left
  · go_simp
    rfl
  refine hK.out _ _ ?_
  clear hK K
  refine done_ (by kernel_rfl) ?_

  clear m1 m2 q0 b0 b1 hput HA2 HB2
  go_wp2_with fail
  refine HACT.out.mono ?_
  rintro e w6 ⟨rfl, hA, hB⟩
  have HA6 := Aside0.mk hA
  have HB6 := Aside0.mk (HB5.out.trans hB)
  clear hA hB
  go_wp2_with fail
  go_ret
  exact ⟨A, c, rfl, HA6.out, HB6.out⟩
set_option maxHeartbeats 2000000 in
set_option maxRecDepth 100000 in
theorem clo_rename_bad {B : Nat} {w : World} {p b c1 c2 c3 : Nat} {left acts : Int} {L : List SF} {x : SF} {A : Option Addr} {c : Nat} {Ts : List Th} {s old : ByteArray} (hs : s.size ≤ 9223372036854775807) (h : Has B w (storeT p left acts L (some ⟨b, x, A, c⟩) :: nmT c1 s :: stT c2 p :: nmT c3 old :: Ts)) (hm : mayF s = false) :
    Calls Try.prog 40 #[ptr b, ptr c1, ptr c2, ptr c3] w (CloPost B w p b left acts L x (nmT c1 s :: stT c2 p :: nmT c3 old :: Ts) 2) := by
  have HMY := Aside0.mk (may_calls hs w)
  rw [hm] at HMY
  have m1 : w.cell? ⟨c1, 0, none⟩ = some (.string s) := box_mem h (b := c1) (cs := #[.string s]) (t := 9) (by simp) 0
  have HH := Aside0.mk h
  clear h hs hm
  go_enter Try.func40, Try.ntmps40
  go_wp2_with fail
  refine HMY.out.mono ?_
  rintro e w1 ⟨rfl, hd⟩
  obtain ⟨nd, rfl⟩ := hd.out
  go_wp2_with fail
  go_ret
  exact ⟨A, c, rfl, HH.out.drewN nd, ⟨rfl, rfl, rfl, Nat.le_refl _, fun _ _ => rfl⟩⟩
end Go.Proofs.Ytibnakpefjjoiaa.Fs
namespace Go.Proofs.Ytibnakpefjjoiaa.Fs
open Go.RowKit Go.Proofs.YtibnakpefjjoiaaW.PrintWords Go.Proofs.YtibnakpefjjoiaaW.PrintLast Go.Proofs.YtibnakpefjjoiaaW.PrintMore Go.Proofs.Ytibnakpefjjoiaa.Q Go.Proofs.Ytibnakpefjjoiaa.Own
set_option linter.unusedVariables false
set_option linter.unusedSimpArgs false
attribute [local go_sem ↓] Go.wp_at_zero Go.wp_at_succ
attribute [local go_sem] Opn.str_leq Opn.str_gtr Opn.str_geq max2_int min2_int max_two min_two max_three min_three max_four min_four

abbrev nT (c : Nat) (n : Int) : Th := boxT c #[.int .i64 n] 3
def minI (a b : Int) : Int := if b < a then b else a
set_option maxHeartbeats 4000000 in
set_option maxRecDepth 100000 in
theorem clo_trunc {B : Nat} {w : World} {p b c1 c2 : Nat} {left acts : Int} {L : List SF} {x : SF} {A : Option Addr} {c : Nat} {Ts : List Th} (n : Nat) (hn : n ≤ x.f1.length) (h : Has B w (storeT p left acts L (some ⟨b, x, A, c⟩) :: nT c1 (n : Int) :: stT c2 p :: Ts)) (ha : 0 ≤ acts) (hb : acts < 1000000) (hw : -1 ≤ left) (hw2 : left ≤ 9223372036854775807) :
    Calls Try.prog 37 #[ptr b, ptr c1, ptr c2] w (CloPost B w p b (leftF left) (acts + 1) L ⟨x.f0, x.f1.take n, minI x.f2 (n : Int)⟩ (nT c1 (n : Int) :: stT c2 p :: Ts) 0) := by
  generalize hy : minI x.f2 (n : Int) = y
  have e6 : (if (n : Int) < x.f2 then (n : Int) else x.f2) = y := hy
  clear hy
  obtain ⟨b0, b1, bf, hle, hC⟩ := open_cells h
  dsimp only at b0 b1 bf hle hC
  have q1 : w.cell? ⟨c1, 0, none⟩ = some (.int .i64 (n : Int)) := box_mem h (b := c1) (cs := #[.int .i64 (n : Int)]) (t := 3) (by simp) 0
  have d1 : decide ((n : Int) < 0) = false := decide_eq_false (by omega)
  have d2 : decide ((n : Int) > (x.f1.length : Int)) = false := decide_eq_false (by omega)
  have d3 : (n : Int) ≤ (c : Int) := by omega
  have d4 : n ≤ c := by omega
  have HH := Aside0.mk h
  have HC := Aside0.mk (Kd.C_max hC)
  clear h hC bf
  go_enter Try.func37, Try.ntmps37
  go_wp2_with fail
  refine start_ (n := 11) (S := fun w' => w'.cell? ⟨c1, 0, none⟩ = some (.int .i64 (n : Int)) ∧ w'.cell? ⟨b, 0, none⟩ = some (.slice A x.f1.length c)) (ds := []) #[false, false, false, false, false, false, false, false, false, false, false] (by kernel_rfl) rfl rfl ⟨q1, b0⟩ (fun hHeld => ?_)
  refine take_ (i := 0) (N := some 5) (v := ?_) (a' := ?_) #[true, false, false, false, false, false, false, false, false, false, false] rfl rfl (by kernel_rfl) (fun _ _ _ h => h) (Or.inl ⟨by rfl, ?_⟩) hHeld ?_ ?_
  rotate_left
  · rintro w' ⟨s0, s1⟩
    go_simp
    with_reducible rfl
  rotate_left
  · simp only [Act.put, List.setIfInBounds_toArray, List.set_cons_zero, List.set_cons_succ, i64_w, i32_w]
    rfl
  refine pure_ (i := 1) (N := some 6) (v := ?_) (a' := ?_) #[true, true, false, false, false, false, false, false, false, false, false] rfl rfl (by kernel_rfl) (fun _ _ _ h => h) (Or.inl ⟨by rfl, ?_⟩) ?_ ?_
  rotate_left
  · intro w'
    go_simp
    with_reducible rfl
  rotate_left
  · simp only [Act.put, List.setIfInBounds_toArray, List.set_cons_zero, List.set_cons_succ, i64_w, i32_w]
    rfl
  refine pure_ (i := 2) (N := some 7) (v := ?_) (a' := ?_) #[true, true, true, false, false, false, false, false, false, false, false] rfl rfl (by kernel_rfl) (fun _ _ _ h => h) (Or.inl ⟨by rfl, ?_⟩) ?_ ?_
  rotate_left
  · intro w'
    go_simp
    with_reducible rfl
  rotate_left
  · simp only [Act.put, List.setIfInBounds_toArray, List.set_cons_zero, List.set_cons_succ, i64_w, i32_w]
    rfl
  refine pure_ (i := 4) (N := some 9) (v := ?_) (a' := ?_) #[true, true, true, false, true, false, false, false, false, false, false] rfl rfl (by kernel_rfl) (fun _ _ _ h => h) (Or.inl ⟨by rfl, ?_⟩) ?_ ?_
  rotate_left
  · intro w'
    go_simp
    with_reducible rfl
  rotate_left
  · simp only [Act.put, List.setIfInBounds_toArray, List.set_cons_zero, List.set_cons_succ, i64_w, i32_w]
    rfl
  refine pure_ (i := 5) (N := some 10) (v := ?_) (a' := ?_) #[true, true, true, false, true, true, false, false, false, false, false] rfl rfl (by kernel_rfl) (fun _ _ _ h => h) (Or.inl ⟨by rfl, ?_⟩) ?_ ?_
  rotate_left
  · intro w'
    go_simp
    with_reducible rfl
  rotate_left
  · simp only [Act.put, List.setIfInBounds_toArray, List.set_cons_zero, List.set_cons_succ, i64_w, i32_w]
    rfl
  refine pure_ (i := 6) (N := some 11) (v := ?_) (a' := ?_) #[true, true, true, false, true, true, true, false, false, false, false] rfl rfl (by kernel_rfl) (fun _ _ _ h => h) (Or.inl ⟨by rfl, ?_⟩) ?_ ?_
  rotate_left
  · intro w'
    go_simp
    with_reducible rfl
  rotate_left
  · simp only [Act.put, List.setIfInBounds_toArray, List.set_cons_zero, List.set_cons_succ, i64_w, i32_w]
    rfl
  refine take_ (i := 3) (N := some 8) (v := ?_) (a' := ?_) #[true, true, true, true, true, true, true, false, false, false, false] rfl rfl (by kernel_rfl) (fun _ _ _ h => h) (Or.inl ⟨by rfl, ?_⟩) hHeld ?_ ?_
  rotate_left
  · rintro w' ⟨s0, s1⟩
    go_simp
    with_reducible rfl
  rotate_left
  · simp only [Act.put, List.setIfInBounds_toArray, List.set_cons_zero, List.set_cons_succ, i64_w, i32_w]
    rfl
  refine take_ (i := 7) (N := some 12) (v := ?_) (a' := ?_) #[true, true, true, true, true, true, true, true, false, false, false] rfl rfl (by kernel_rfl) (fun _ _ _ h => h) (Or.inl ⟨by rfl, ?_⟩) hHeld ?_ ?_
  rotate_left
  · rintro w' ⟨s0, s1⟩
    go_simp
    with_reducible rfl
  rotate_left
  · simp only [Act.put, List.setIfInBounds_toArray, List.set_cons_zero, List.set_cons_succ, i64_w, i32_w]
    rfl
  refine pure_ (i := 8) (N := some 13) (v := ?_) (a' := ?_) #[true, true, true, true, true, true, true, true, true, false, false] rfl rfl (by kernel_rfl) (fun _ _ _ h => h) (Or.inl ⟨by rfl, ?_⟩) ?_ ?_
  rotate_left
  · intro w'
    go_simp
    with_reducible rfl
  rotate_left
  · simp only [Act.put, List.setIfInBounds_toArray, List.set_cons_zero, List.set_cons_succ, i64_w, i32_w]
    rfl
  refine pure_ (i := 9) (N := some 14) (v := ?_) (a' := ?_) #[true, true, true, true, true, true, true, true, true, true, false] rfl rfl (by kernel_rfl) (fun _ _ _ h => h) (Or.inl ⟨by rfl, ?_⟩) ?_ ?_
  rotate_left
  · intro w'
    go_simp
    with_reducible rfl
  rotate_left
  · simp only [Act.put, List.setIfInBounds_toArray, List.set_cons_zero, List.set_cons_succ, i64_w, i32_w]
    rfl
  refine pure_ (i := 10) (N := some 15) (v := ?_) (a' := ?_) #[true, true, true, true, true, true, true, true, true, true, true] rfl rfl (by kernel_rfl) (fun _ _ _ h => h) (Or.inl ⟨by rfl, ?_⟩) ?_ ?_
  rotate_left
  · intro w'
    go_simp
    with_reducible rfl
  rotate_left
  · simp only [Act.put, List.setIfInBounds_toArray, List.set_cons_zero, List.set_cons_succ, i64_w, i32_w]
    rfl
  refine done_ (by kernel_rfl) ?_

  have HH1 := Aside0.mk HH.out.drew
  have HB1 : Aside0 (Below B w w.drew) := ⟨below_drew (Below.refl _ _)⟩
  have b0' : w.drew.cell? ⟨b, 0, none⟩ = some (.slice A x.f1.length c) := b0
  have b1' : w.drew.cell? ⟨b, 1, none⟩ = some (.int .i64 x.f2) := b1
  have q1' : w.drew.cell? ⟨c1, 0, none⟩ = some (.int .i64 (n : Int)) := q1
  clear b0 b1 q1 HH d1 d2
  generalize w.drew = w1 at HH1 HB1 b0' b1' q1' ⊢
  go_wp2_with fail
  obtain ⟨-, -, bg, -, -⟩ := open_cells HH1.out
  have g0 := bg 0
  have g1 := bg 1
  dsimp only at g0 g1
  clear bg
  obtain ⟨-, -, bf, -, -⟩ := open_cells HH1.out.drew
  obtain ⟨-, hcut⟩ := open_set HH1.out.drew
  obtain ⟨hA, hB⟩ := hcut n hn
  obtain ⟨c0, c1', cf, -, -⟩ := open_cells hA
  obtain ⟨hset, -⟩ := open_set hA
  obtain ⟨hA2, hB2⟩ := hset y
  dsimp only at bf c0 c1' cf hA hB hA2 hB2
  have f0 := bf 0
  have f1 := cf 1
  have b0'' : w1.drew.cell? ⟨b, 0, none⟩ = some (.slice A x.f1.length c) := b0'
  have r1 : (w1.drew.setCell ⟨b, 0, none⟩ (.slice A n c)).cell? ⟨c1, 0, none⟩ = some (.int .i64 (n : Int)) := box_mem hA (b := c1) (cs := #[.int .i64 (n : Int)]) (t := 3) (by simp) 0
  have HA2 : Aside0 (Has B (((w1.setCell ⟨b, 0, none⟩ (.slice A n c)).setCell ⟨b, 1, none⟩ (.int .i64 y)).drew) (storeT p left acts L (some ⟨b, ⟨x.f0, x.f1.take n, y⟩, A, c⟩) :: nT c1 (n : Int) :: stT c2 p :: Ts)) := ⟨hA2⟩
  have HB2 : Aside0 (Below B w (((w1.setCell ⟨b, 0, none⟩ (.slice A n c)).setCell ⟨b, 1, none⟩ (.int .i64 y)).drew)) := ⟨(HB1.out.trans (below_drew (Below.refl _ _))).trans (hB.trans hB2)⟩
  clear hA hB hA2 hB2 hset hcut bf cf
  refine start_ (n := 20) (S := fun w' => w'.cell? ⟨c1, 0, none⟩ = some (.int .i64 (n : Int)) ∧ w'.cell? ⟨b, 1, none⟩ = some (.int .i64 x.f2)) (ds := [19]) #[false, false, false, false, false, false, false, false, false, false, false, false, false, false, false, false, false, false, false, false] (by kernel_rfl) rfl rfl ⟨q1', b1'⟩ (fun hHeld => ?_)
  refine pure_ (i := 0) (N := some 16) (v := ?_) (a' := ?_) #[true, false, false, false, false, false, false, false, false, false, false, false, false, false, false, false, false, false, false, false] rfl rfl (by kernel_rfl) (fun _ _ _ h => h) (Or.inl ⟨by rfl, ?_⟩) ?_ ?_
  rotate_left
  · intro w'
    go_simp
    with_reducible rfl
  rotate_left
  · simp only [Act.put, List.setIfInBounds_toArray, List.set_cons_zero, List.set_cons_succ, i64_w, i32_w]
    rfl
  refine pure_ (i := 1) (N := some 17) (v := ?_) (a' := ?_) #[true, true, false, false, false, false, false, false, false, false, false, false, false, false, false, false, false, false, false, false] rfl rfl (by kernel_rfl) (fun _ _ _ h => h) (Or.inl ⟨by rfl, ?_⟩) ?_ ?_
  rotate_left
  · intro w'
    go_simp
    with_reducible rfl
  rotate_left
  · simp only [Act.put, List.setIfInBounds_toArray, List.set_cons_zero, List.set_cons_succ, i64_w, i32_w]
    rfl
  refine pure_ (i := 2) (N := some 18) (v := ?_) (a' := ?_) #[true, true, true, false, false, false, false, false, false, false, false, false, false, false, false, false, false, false, false, false] rfl rfl (by kernel_rfl) (fun _ _ _ h => h) (Or.inl ⟨by rfl, ?_⟩) ?_ ?_
  rotate_left
  · intro w'
    go_simp
    with_reducible rfl
  rotate_left
  · simp only [Act.put, List.setIfInBounds_toArray, List.set_cons_zero, List.set_cons_succ, i64_w, i32_w]
    rfl
  refine pure_ (i := 3) (N := some 19) (v := ?_) (a' := ?_) #[true, true, true, true, false, false, false, false, false, false, false, false, false, false, false, false, false, false, false, false] rfl rfl (by kernel_rfl) (fun _ _ _ h => h) (Or.inl ⟨by rfl, ?_⟩) ?_ ?_
  rotate_left
  · intro w'
    go_simp
    with_reducible rfl
  rotate_left
  · simp only [Act.put, List.setIfInBounds_toArray, List.set_cons_zero, List.set_cons_succ, i64_w, i32_w]
    rfl
  refine pure_ (i := 4) (N := some 20) (v := ?_) (a' := ?_) #[true, true, true, true, true, false, false, false, false, false, false, false, false, false, false, false, false, false, false, false] rfl rfl (by kernel_rfl) (fun _ _ _ h => h) (Or.inl ⟨by rfl, ?_⟩) ?_ ?_
  rotate_left
  · intro w'
    go_simp
    with_reducible rfl
  rotate_left
  · simp only [Act.put, List.setIfInBounds_toArray, List.set_cons_zero, List.set_cons_succ, i64_w, i32_w]
    rfl
  refine pure_ (i := 8) (N := some 24) (v := ?_) (a' := ?_) #[true, true, true, true, true, false, false, false, true, false, false, false, false, false, false, false, false, false, false, false] rfl rfl (by kernel_rfl) (fun _ _ _ h => h) (Or.inl ⟨by rfl, ?_⟩) ?_ ?_
  rotate_left
  · intro w'
    go_simp
    with_reducible rfl
  rotate_left
  · simp only [Act.put, List.setIfInBounds_toArray, List.set_cons_zero, List.set_cons_succ, i64_w, i32_w]
    rfl
  refine pure_ (i := 9) (N := some 25) (v := ?_) (a' := ?_) #[true, true, true, true, true, false, false, false, true, true, false, false, false, false, false, false, false, false, false, false] rfl rfl (by kernel_rfl) (fun _ _ _ h => h) (Or.inl ⟨by rfl, ?_⟩) ?_ ?_
  rotate_left
  · intro w'
    go_simp
    with_reducible rfl
  rotate_left
  · simp only [Act.put, List.setIfInBounds_toArray, List.set_cons_zero, List.set_cons_succ, i64_w, i32_w]
    rfl
  refine pure_ (i := 10) (N := some 26) (v := ?_) (a' := ?_) #[true, true, true, true, true, false, false, false, true, true, true, false, false, false, false, false, false, false, false, false] rfl rfl (by kernel_rfl) (fun _ _ _ h => h) (Or.inl ⟨by rfl, ?_⟩) ?_ ?_
  rotate_left
  · intro w'
    go_simp
    with_reducible rfl
  rotate_left
  · simp only [Act.put, List.setIfInBounds_toArray, List.set_cons_zero, List.set_cons_succ, i64_w, i32_w]
    rfl
  refine take_ (i := 6) (N := some 22) (v := ?_) (a' := ?_) #[true, true, true, true, true, false, true, false, true, true, true, false, false, false, false, false, false, false, false, false] rfl rfl (by kernel_rfl) (fun _ _ _ h => h) (Or.inl ⟨by rfl, ?_⟩) hHeld ?_ ?_
  rotate_left
  · rintro w' ⟨s0, s1⟩
    go_simp
    with_reducible rfl
  rotate_left
  · simp only [Act.put, List.setIfInBounds_toArray, List.set_cons_zero, List.set_cons_succ, i64_w, i32_w]
    rfl
  refine take_ (i := 11) (N := some 27) (v := ?_) (a' := ?_) #[true, true, true, true, true, false, true, false, true, true, true, true, false, false, false, false, false, false, false, false] rfl rfl (by kernel_rfl) (fun _ _ _ h => h) (Or.inl ⟨by rfl, ?_⟩) hHeld ?_ ?_
  rotate_left
  · rintro w' ⟨s0, s1⟩
    go_simp
    with_reducible rfl
  rotate_left
  · simp only [Act.put, List.setIfInBounds_toArray, List.set_cons_zero, List.set_cons_succ, i64_w, i32_w]
    rfl
  refine take_ (i := 12) (N := some 28) (v := ?_) (a' := ?_) #[true, true, true, true, true, false, true, false, true, true, true, true, true, false, false, false, false, false, false, false] rfl rfl (by kernel_rfl) (fun _ _ _ h => h) (Or.inl ⟨by rfl, ?_⟩) hHeld ?_ ?_
  rotate_left
  · rintro w' ⟨s0, s1⟩
    go_simp
    with_reducible rfl
  rotate_left
  · simp only [Act.put, List.setIfInBounds_toArray, List.set_cons_zero, List.set_cons_succ, i64_w, i32_w]
    rfl
  refine pure_ (i := 13) (N := some 29) (v := ?_) (a' := ?_) #[true, true, true, true, true, false, true, false, true, true, true, true, true, true, false, false, false, false, false, false] rfl rfl (by kernel_rfl) (fun _ _ _ h => h) (Or.inl ⟨by rfl, ?_⟩) ?_ ?_
  rotate_left
  · intro w'
    go_simp
    with_reducible rfl
  rotate_left
  · simp only [Act.put, List.setIfInBounds_toArray, List.set_cons_zero, List.set_cons_succ, i64_w, i32_w]
    rfl
  refine one_ (i := 5) (N := some 21) #[true, true, true, true, true, true, true, false, true, true, true, true, true, true, false, false, false, false, false, false] rfl rfl (by kernel_rfl) (by decide) (fun K hK => ?_)
  refine value_ (w1 := ?_) (v := ?_) (by rfl) rfl ?_ ?_
  rotate_left 2
  · go_simp
    constructor
    · rfl
    · rfl
  refine hK.out _ _ ⟨q1', b1'⟩ (fun hHeld => ?_)
  clear hK K
  refine norm_ (a' := ?_) ?_ ?_
  rotate_left
  · show Act.put _ (some 21) _ = _
    simp only [Act.put, List.setIfInBounds_toArray, List.set_cons_zero, List.set_cons_succ, i64_w, i32_w]
    rfl
  refine pure_ (i := 7) (N := some 23) (v := ?_) (a' := ?_) #[true, true, true, true, true, true, true, true, true, true, true, true, true, true, false, false, false, false, false, false] rfl rfl (by kernel_rfl) (fun _ _ _ h => h) (Or.inl ⟨by rfl, ?_⟩) ?_ ?_
  rotate_left
  · intro w'
    go_simp
    with_reducible rfl
  rotate_left
  · simp only [Act.put, List.setIfInBounds_toArray, List.set_cons_zero, List.set_cons_succ, i64_w, i32_w]
    rfl
  refine pure_ (i := 14) (N := some 30) (v := ?_) (a' := ?_) #[true, true, true, true, true, true, true, true, true, true, true, true, true, true, true, false, false, false, false, false] rfl rfl (by kernel_rfl) (fun _ _ _ h => h) (Or.inl ⟨by rfl, ?_⟩) ?_ ?_
  rotate_left
  · intro w'
    go_simp
    with_reducible rfl
  rotate_left
  · simp only [Act.put, List.setIfInBounds_toArray, List.set_cons_zero, List.set_cons_succ, i64_w, i32_w]
    rfl
  refine pure_ (i := 15) (N := some 31) (v := ?_) (a' := ?_) #[true, true, true, true, true, true, true, true, true, true, true, true, true, true, true, true, false, false, false, false] rfl rfl (by kernel_rfl) (fun _ _ _ h => h) (Or.inl ⟨by rfl, ?_⟩) ?_ ?_
  rotate_left
  · intro w'
    go_simp
    with_reducible rfl
  rotate_left
  · simp only [Act.put, List.setIfInBounds_toArray, List.set_cons_zero, List.set_cons_succ, i64_w, i32_w]
    rfl
  refine one_ (i := 16) (N := none) #[true, true, true, true, true, true, true, true, true, true, true, true, true, true, true, true, true, false, false, false] rfl rfl (by kernel_rfl) (by decide) (fun K hK => ?_)
  refine skip_ (w1 := ?_) (by rfl) rfl ?_ ?_
  rotate_left
  · go_simp
    rfl
  refine hK.out _ _ ⟨r1, c1'⟩ (fun hHeld => ?_)
  clear hK K
  refine pure_ (i := 17) (N := some 32) (v := ?_) (a' := ?_) #[true, true, true, true, true, true, true, true, true, true, true, true, true, true, true, true, true, true, false, false] rfl rfl (by kernel_rfl) (fun _ _ _ h => h) (Or.inl ⟨by rfl, ?_⟩) ?_ ?_
  rotate_left
  · intro w'
    go_simp
    with_reducible rfl
  rotate_left
  · simp only [Act.put, List.setIfInBounds_toArray, List.set_cons_zero, List.set_cons_succ, i64_w, i32_w]
    rfl
  refine pure_ (i := 18) (N := some 33) (v := ?_) (a' := ?_) #[true, true, true, true, true, true, true, true, true, true, true, true, true, true, true, true, true, true, true, false] rfl rfl (by kernel_rfl) (fun _ _ _ h => h) (Or.inl ⟨by rfl, ?_⟩) ?_ ?_
  rotate_left
  · intro w'
    go_simp
    with_reducible rfl
  rotate_left
  · simp only [Act.put, List.setIfInBounds_toArray, List.set_cons_zero, List.set_cons_succ, i64_w, i32_w]
    rfl
  refine last_ (i := 19) (N := none) #[true, true, true, true, true, true, true, true, true, true, true, true, true, true, true, true, true, true, true, true] rfl rfl (by kernel_rfl) (by decide) (fun K hK => ?_)
  refine skip_ (w1 := ?_) (by rfl) rfl ?_ ?_
  rotate_left
  · go_simp
    rfl
  refine hK.out _ _ ?_
  clear hK K
  refine done_ (by kernel_rfl) ?_

  have q2 : (((w1.setCell ⟨b, 0, none⟩ (.slice A n c)).setCell ⟨b, 1, none⟩ (.int .i64 y)).drew).cell? ⟨c2, 0, none⟩ = some (ptr p) := box_mem HA2.out (b := c2) (cs := #[ptr p]) (t := 24) (by simp) 0
  have HACT := Aside0.mk (act_calls HA2.out ha hb hw hw2)
  have HB3 := HB2
  clear f0 f1 g0 g1 b0'' r1 c0 c1' b0' b1' q1' HH1 HB1 d3 d4
  go_wp2_with fail
  refine HACT.out.mono ?_
  rintro e w3 ⟨rfl, hA, hB⟩
  have HA3 := Aside0.mk hA
  have HB4 := Aside0.mk (HB3.out.trans hB)
  clear hA hB
  go_wp2_with fail
  go_ret
  exact ⟨A, c, rfl, HA3.out, HB4.out⟩
end Go.Proofs.Ytibnakpefjjoiaa.Fs
namespace Go.Proofs.Ytibnakpefjjoiaa.Fs
open Go.RowKit Go.Proofs.YtibnakpefjjoiaaW.PrintWords Go.Proofs.YtibnakpefjjoiaaW.PrintLast Go.Proofs.YtibnakpefjjoiaaW.PrintMore Go.Proofs.Ytibnakpefjjoiaa.Q Go.Proofs.Ytibnakpefjjoiaa.Own
set_option linter.unusedVariables false
set_option linter.unusedSimpArgs false
attribute [local go_sem ↓] Go.wp_at_zero Go.wp_at_succ

set_option maxHeartbeats 4000000 in
set_option maxRecDepth 100000 in
theorem clo_trunc_bad {B : Nat} {w : World} {p b c1 c2 : Nat} {left acts : Int} {L : List SF} {x : SF} {A : Option Addr} {c : Nat} {Ts : List Th} (n : Int) (hn : n < 0 ∨ (x.f1.length : Int) < n) (h : Has B w (storeT p left acts L (some ⟨b, x, A, c⟩) :: nT c1 n :: stT c2 p :: Ts)) :
    Calls Try.prog 37 #[ptr b, ptr c1, ptr c2] w (CloPost B w p b left acts L x (nT c1 n :: stT c2 p :: Ts) 2) := by
  obtain ⟨b0, b1, bf, hle, hC⟩ := open_cells h
  dsimp only at b0 b1 bf hle hC
  have q1 : w.cell? ⟨c1, 0, none⟩ = some (.int .i64 n) := box_mem h (b := c1) (cs := #[.int .i64 n]) (t := 3) (by simp) 0
  have HH := Aside0.mk h
  clear h hC bf
  by_cases h1 : n < 0
  · have d1 : decide (n < 0) = true := decide_eq_true h1
    clear hn
    go_enter Try.func37, Try.ntmps37
    go_wp2_with fail
    refine start_ (n := 11) (S := fun w' => w'.cell? ⟨c1, 0, none⟩ = some (.int .i64 n) ∧ w'.cell? ⟨b, 0, none⟩ = some (.slice A x.f1.length c)) (ds := []) #[false, false, false, false, false, false, false, false, false, false, false] (by kernel_rfl) rfl rfl ⟨q1, b0⟩ (fun hHeld => ?_)
    refine take_ (i := 0) (N := some 5) (v := ?_) (a' := ?_) #[true, false, false, false, false, false, false, false, false, false, false] rfl rfl (by kernel_rfl) (fun _ _ _ h => h) (Or.inl ⟨by rfl, ?_⟩) hHeld ?_ ?_
    rotate_left
    · rintro w' ⟨s0, s1⟩
      go_simp
      with_reducible rfl
    rotate_left
    · simp only [Act.put, List.setIfInBounds_toArray, List.set_cons_zero, List.set_cons_succ, i64_w, i32_w]
      rfl
    refine pure_ (i := 1) (N := some 6) (v := ?_) (a' := ?_) #[true, true, false, false, false, false, false, false, false, false, false] rfl rfl (by kernel_rfl) (fun _ _ _ h => h) (Or.inl ⟨by rfl, ?_⟩) ?_ ?_
    rotate_left
    · intro w'
      go_simp
      with_reducible rfl
    rotate_left
    · simp only [Act.put, List.setIfInBounds_toArray, List.set_cons_zero, List.set_cons_succ, i64_w, i32_w]
      rfl
    refine pure_ (i := 2) (N := some 7) (v := ?_) (a' := ?_) #[true, true, true, false, false, false, false, false, false, false, false] rfl rfl (by kernel_rfl) (fun _ _ _ h => h) (Or.inl ⟨by rfl, ?_⟩) ?_ ?_
    rotate_left
    · intro w'
      go_simp
      with_reducible rfl
    rotate_left
    · simp only [Act.put, List.setIfInBounds_toArray, List.set_cons_zero, List.set_cons_succ, i64_w, i32_w]
      rfl
    refine pure_ (i := 3) (N := some 8) (v := undef) (a' := ?_) #[true, true, true, true, false, false, false, false, false, false, false] rfl rfl (by kernel_rfl) (fun _ _ _ h => h) (Or.inr ⟨by rfl, rfl⟩) ?_ ?_
    rotate_left
    · simp only [Act.put, List.setIfInBounds_toArray, List.set_cons_zero, List.set_cons_succ, i64_w, i32_w]
      rfl
    refine pure_ (i := 4) (N := some 9) (v := undef) (a' := ?_) #[true, true, true, true, true, false, false, false, false, false, false] rfl rfl (by kernel_rfl) (fun _ _ _ h => h) (Or.inr ⟨by rfl, rfl⟩) ?_ ?_
    rotate_left
    · simp only [Act.put, List.setIfInBounds_toArray, List.set_cons_zero, List.set_cons_succ, i64_w, i32_w]
      rfl
    refine pure_ (i := 5) (N := some 10) (v := undef) (a' := ?_) #[true, true, true, true, true, true, false, false, false, false, false] rfl rfl (by kernel_rfl) (fun _ _ _ h => h) (Or.inr ⟨by rfl, rfl⟩) ?_ ?_
    rotate_left
    · simp only [Act.put, List.setIfInBounds_toArray, List.set_cons_zero, List.set_cons_succ, i64_w, i32_w]
      rfl
    refine pure_ (i := 6) (N := some 11) (v := undef) (a' := ?_) #[true, true, true, true, true, true, true, false, false, false, false] rfl rfl (by kernel_rfl) (fun _ _ _ h => h) (Or.inr ⟨by rfl, rfl⟩) ?_ ?_
    rotate_left
    · simp only [Act.put, List.setIfInBounds_toArray, List.set_cons_zero, List.set_cons_succ, i64_w, i32_w]
      rfl
    refine pure_ (i := 7) (N := some 12) (v := undef) (a' := ?_) #[true, true, true, true, true, true, true, true, false, false, false] rfl rfl (by kernel_rfl) (fun _ _ _ h => h) (Or.inr ⟨by rfl, rfl⟩) ?_ ?_
    rotate_left
    · simp only [Act.put, List.setIfInBounds_toArray, List.set_cons_zero, List.set_cons_succ, i64_w, i32_w]
      rfl
    refine pure_ (i := 8) (N := some 13) (v := undef) (a' := ?_) #[true, true, true, true, true, true, true, true, true, false, false] rfl rfl (by kernel_rfl) (fun _ _ _ h => h) (Or.inr ⟨by rfl, rfl⟩) ?_ ?_
    rotate_left
    · simp only [Act.put, List.setIfInBounds_toArray, List.set_cons_zero, List.set_cons_succ, i64_w, i32_w]
      rfl
    refine pure_ (i := 9) (N := some 14) (v := undef) (a' := ?_) #[true, true, true, true, true, true, true, true, true, true, false] rfl rfl (by kernel_rfl) (fun _ _ _ h => h) (Or.inr ⟨by rfl, rfl⟩) ?_ ?_
    rotate_left
    · simp only [Act.put, List.setIfInBounds_toArray, List.set_cons_zero, List.set_cons_succ, i64_w, i32_w]
      rfl
    refine pure_ (i := 10) (N := some 15) (v := ?_) (a' := ?_) #[true, true, true, true, true, true, true, true, true, true, true] rfl rfl (by kernel_rfl) (fun _ _ _ h => h) (Or.inl ⟨by rfl, ?_⟩) ?_ ?_
    rotate_left
    · intro w'
      go_simp
      with_reducible rfl
    rotate_left
    · simp only [Act.put, List.setIfInBounds_toArray, List.set_cons_zero, List.set_cons_succ, i64_w, i32_w]
      rfl
    refine done_ (by kernel_rfl) ?_

    go_wp2_with fail
    go_ret
    exact ⟨A, c, rfl, HH.out.drew, below_drew (Below.refl _ _)⟩
  · have d1 : decide (n < 0) = false := decide_eq_false h1
    have d2 : decide (n > (x.f1.length : Int)) = true := decide_eq_true (hn.resolve_left h1)
    clear hn
    go_enter Try.func37, Try.ntmps37
    go_wp2_with fail
    refine start_ (n := 11) (S := fun w' => w'.cell? ⟨c1, 0, none⟩ = some (.int .i64 n) ∧ w'.cell? ⟨b, 0, none⟩ = some (.slice A x.f1.length c)) (ds := []) #[false, false, false, false, false, false, false, false, false, false, false] (by kernel_rfl) rfl rfl ⟨q1, b0⟩ (fun hHeld => ?_)
    refine take_ (i := 0) (N := some 5) (v := ?_) (a' := ?_) #[true, false, false, false, false, false, false, false, false, false, false] rfl rfl (by kernel_rfl) (fun _ _ _ h => h) (Or.inl ⟨by rfl, ?_⟩) hHeld ?_ ?_
    rotate_left
    · rintro w' ⟨s0, s1⟩
      go_simp
      with_reducible rfl
    rotate_left
    · simp only [Act.put, List.setIfInBounds_toArray, List.set_cons_zero, List.set_cons_succ, i64_w, i32_w]
      rfl
    refine pure_ (i := 1) (N := some 6) (v := ?_) (a' := ?_) #[true, true, false, false, false, false, false, false, false, false, false] rfl rfl (by kernel_rfl) (fun _ _ _ h => h) (Or.inl ⟨by rfl, ?_⟩) ?_ ?_
    rotate_left
    · intro w'
      go_simp
      with_reducible rfl
    rotate_left
    · simp only [Act.put, List.setIfInBounds_toArray, List.set_cons_zero, List.set_cons_succ, i64_w, i32_w]
      rfl
    refine pure_ (i := 2) (N := some 7) (v := ?_) (a' := ?_) #[true, true, true, false, false, false, false, false, false, false, false] rfl rfl (by kernel_rfl) (fun _ _ _ h => h) (Or.inl ⟨by rfl, ?_⟩) ?_ ?_
    rotate_left
    · intro w'
      go_simp
      with_reducible rfl
    rotate_left
    · simp only [Act.put, List.setIfInBounds_toArray, List.set_cons_zero, List.set_cons_succ, i64_w, i32_w]
      rfl
    refine pure_ (i := 4) (N := some 9) (v := ?_) (a' := ?_) #[true, true, true, false, true, false, false, false, false, false, false] rfl rfl (by kernel_rfl) (fun _ _ _ h => h) (Or.inl ⟨by rfl, ?_⟩) ?_ ?_
    rotate_left
    · intro w'
      go_simp
      with_reducible rfl
    rotate_left
    · simp only [Act.put, List.setIfInBounds_toArray, List.set_cons_zero, List.set_cons_succ, i64_w, i32_w]
      rfl
    refine pure_ (i := 5) (N := some 10) (v := ?_) (a' := ?_) #[true, true, true, false, true, true, false, false, false, false, false] rfl rfl (by kernel_rfl) (fun _ _ _ h => h) (Or.inl ⟨by rfl, ?_⟩) ?_ ?_
    rotate_left
    · intro w'
      go_simp
      with_reducible rfl
    rotate_left
    · simp only [Act.put, List.setIfInBounds_toArray, List.set_cons_zero, List.set_cons_succ, i64_w, i32_w]
      rfl
    refine pure_ (i := 6) (N := some 11) (v := ?_) (a' := ?_) #[true, true, true, false, true, true, true, false, false, false, false] rfl rfl (by kernel_rfl) (fun _ _ _ h => h) (Or.inl ⟨by rfl, ?_⟩) ?_ ?_
    rotate_left
    · intro w'
      go_simp
      with_reducible rfl
    rotate_left
    · simp only [Act.put, List.setIfInBounds_toArray, List.set_cons_zero, List.set_cons_succ, i64_w, i32_w]
      rfl
    refine take_ (i := 3) (N := some 8) (v := ?_) (a' := ?_) #[true, true, true, true, true, true, true, false, false, false, false] rfl rfl (by kernel_rfl) (fun _ _ _ h => h) (Or.inl ⟨by rfl, ?_⟩) hHeld ?_ ?_
    rotate_left
    · rintro w' ⟨s0, s1⟩
      go_simp
      with_reducible rfl
    rotate_left
    · simp only [Act.put, List.setIfInBounds_toArray, List.set_cons_zero, List.set_cons_succ, i64_w, i32_w]
      rfl
    refine take_ (i := 7) (N := some 12) (v := ?_) (a' := ?_) #[true, true, true, true, true, true, true, true, false, false, false] rfl rfl (by kernel_rfl) (fun _ _ _ h => h) (Or.inl ⟨by rfl, ?_⟩) hHeld ?_ ?_
    rotate_left
    · rintro w' ⟨s0, s1⟩
      go_simp
      with_reducible rfl
    rotate_left
    · simp only [Act.put, List.setIfInBounds_toArray, List.set_cons_zero, List.set_cons_succ, i64_w, i32_w]
      rfl
    refine pure_ (i := 8) (N := some 13) (v := ?_) (a' := ?_) #[true, true, true, true, true, true, true, true, true, false, false] rfl rfl (by kernel_rfl) (fun _ _ _ h => h) (Or.inl ⟨by rfl, ?_⟩) ?_ ?_
    rotate_left
    · intro w'
      go_simp
      with_reducible rfl
    rotate_left
    · simp only [Act.put, List.setIfInBounds_toArray, List.set_cons_zero, List.set_cons_succ, i64_w, i32_w]
      rfl
    refine pure_ (i := 9) (N := some 14) (v := ?_) (a' := ?_) #[true, true, true, true, true, true, true, true, true, true, false] rfl rfl (by kernel_rfl) (fun _ _ _ h => h) (Or.inl ⟨by rfl, ?_⟩) ?_ ?_
    rotate_left
    · intro w'
      go_simp
      with_reducible rfl
    rotate_left
    · simp only [Act.put, List.setIfInBounds_toArray, List.set_cons_zero, List.set_cons_succ, i64_w, i32_w]
      rfl
    refine pure_ (i := 10) (N := some 15) (v := ?_) (a' := ?_) #[true, true, true, true, true, true, true, true, true, true, true] rfl rfl (by kernel_rfl) (fun _ _ _ h => h) (Or.inl ⟨by rfl, ?_⟩) ?_ ?_
    rotate_left
    · intro w'
      go_simp
      with_reducible rfl
    rotate_left
    · simp only [Act.put, List.setIfInBounds_toArray, List.set_cons_zero, List.set_cons_succ, i64_w, i32_w]
      rfl
    refine done_ (by kernel_rfl) ?_

    go_wp2_with fail
    go_ret
    exact ⟨A, c, rfl, HH.out.drew, below_drew (Below.refl _ _)⟩
theorem inf5 : (Try.prog.info? 5).map (fun i => (i.zero, i.size, i.bytes)) = some (some (.int .u8 0), 1, 1) := by kernel_rfl
def BytesPost (w : World) (xs : List Int) (e : Ending) (w' : World) : Prop := ∃ v, e = .returned v ∧ Kd.R kB 5 w' w.heap.size (fun _ => True) v xs ∧ Below w.heap.size w w'
theorem empty_row (w : World) : Kd.R kB 5 (w.alloc (.cells #[] 5)) w.heap.size (fun _ => True) (.slice (some ⟨w.heap.size, 0, none⟩) 0 0) [] := by
  refine ⟨fun _ _ => trivial, [], ⟨rfl, .inr ⟨w.heap.size, 0, #[], rfl, Nat.le_refl _, blk_new w _, Nat.le_refl _, by unfold maxLen; omega, rfl, rfl⟩⟩, Reps.none _ _⟩
theorem mk_u8 {w : World} {base : Nat} {ok : Nat → Prop} {x : Int} {cs : List Value} (h : kB.K w x cs) : kB.M w base ok x cs := h
set_option maxHeartbeats 4000000 in
set_option maxRecDepth 100000 in
theorem clone_calls {w : World} {A : Option Addr} {c : Nat} {xs : List Int} (hC : Kd.C kB w A xs.length xs) (hm : xs.length ≤ 100000000) :
    Calls Try.prog 39 #[.slice A xs.length c] w (BytesPost w xs) := by
  have HC := Aside0.mk hC
  cases A with
  | none =>
    have hx : xs = [] := by
      rcases xs with _ | ⟨y, xs⟩
      · rfl
      · obtain ⟨ad, e, _⟩ := hC.2.2 (by simp)
        cases e
    subst hx
    clear hC
    have huf : ∀ W : World, (binOp .eql 23 (.slice none 0 c) (.slice none 0 0)).run Try.prog W = .ok (.bool true) W := fun W => by kernel_rfl
    go_enter Try.func39, Try.ntmps39
    go_wp2_with fail
    go_ret
    exact ⟨_, rfl, Kd.R_nil _ _ _ _ _, Below.refl _ _⟩
  | some ad =>
    have HE := Aside0.mk (empty_row w)
    have HB : Aside0 (Below w.heap.size w (w.alloc (.cells #[] 5))) := ⟨(Below.refl _ w).alloc (Nat.le_refl _) _⟩
    have HC1 := Aside0.mk (Kd.C_below hC HB.out)
    have HM := Aside0.mk hm
    have huf : ∀ W : World, (binOp .eql 23 (.slice (some ad) xs.length c) (.slice none 0 0)).run Try.prog W = .ok (.bool false) W := fun W => by kernel_rfl
    clear hC hm
    go_enter Try.func39, Try.ntmps39
    go_wp2_with (refine Kd.R_append_rows kB (Rr := kB.K (w.alloc (.cells #[] 5))) (w0 := w) (W := w.alloc (.cells #[] 5)) w.heap.size rfl _ _ 23 5 (.int .u8 0) 1 rfl Try.underlying23 inf5 rfl (by decide) (by decide) (.slice (some ⟨w.heap.size, 0, none⟩) 0 0) [] xs (some ad) xs.length c (fun _ => True) (fun _ => False) rfl rfl HE.out HC1.out (fun x cs hx => mk_u8 hx) (fun _ f => f.elim) (fun _ _ => trivial) HB.out (by simp) (by have := HM.out; simp; omega) ?_; rintro v1 w1 hR1 hB1 - -; have HR1 := Aside0.mk hR1; have HB1 := Aside0.mk hB1; clear hR1 hB1)
    go_ret
    exact ⟨v1, rfl, by have := HR1.out; rwa [List.nil_append] at this, HB1.out⟩
abbrev bT (c : Nat) (v : Value) : Th := boxT c #[v] 23
abbrev rowB (v : Value) (xs : List Int) : Th := rowT kB 5 v xs
set_option maxHeartbeats 2000000 in
set_option maxRecDepth 100000 in
/-- The bytes are told: a copy, the caller's own. -/
theorem clo_read {B : Nat} {w : World} {p b c1 : Nat} {left acts : Int} {L : List SF} {x : SF} {A : Option Addr} {c : Nat} {Ts : List Th} {u : Value} (hm : x.f1.length ≤ 100000000) (h : Has B w (storeT p left acts L (some ⟨b, x, A, c⟩) :: bT c1 u :: Ts)) :
    Calls Try.prog 38 #[ptr b, ptr c1] w fun e w' => ∃ v, CloPost B w p b left acts L x (bT c1 v :: rowB v x.f1 :: Ts) 0 e w' := by
  obtain ⟨b0, b1, bf, hle, hC⟩ := open_cells h
  dsimp only at b0 b1 bf hle hC
  have HK := Aside0.mk (clone_calls (c := c) hC hm)
  have HH := Aside0.mk h
  clear h hC bf
  go_enter Try.func38, Try.ntmps38
  go_wp2_with fail
  refine HK.out.mono ?_
  rintro e w1 ⟨v, rfl, hr, hb⟩
  have HA1 := Aside0.mk (HH.out.row hb hr)
  have HB1 : Aside0 (Below B w w1) := ⟨hb.mono HH.out.size⟩
  obtain ⟨A1, c1', rfl, -, -⟩ := Kd.R_reads hr
  obtain ⟨qa, qf, -, -⟩ := Has.box_cell HA1.out (b := c1) (cs := #[u]) (t := 23) (by simp)
  have q0 : w1.cell? ⟨c1, 0, none⟩ = some u := qa 0
  have f0 := qf 0
  obtain ⟨hA, hB⟩ := (HA1.out.third).box_set 0 (.slice A1 x.f1.length c1')
  have HA2 : Aside0 (Has B (w1.setCell ⟨c1, 0, none⟩ (.slice A1 x.f1.length c1')) (storeT p left acts L (some ⟨b, x, A, c⟩) :: bT c1 (.slice A1 x.f1.length c1') :: rowB (.slice A1 x.f1.length c1') x.f1 :: Ts)) := ⟨hA.third⟩
  have HB2 := Aside0.mk (HB1.out.trans hB)
  clear hr hb hA hB HA1 HB1 qa qf
  go_wp2_with fail
  go_ret
  exact ⟨_, A, c, rfl, HA2.out, HB2.out⟩
end Go.Proofs.Ytibnakpefjjoiaa.Fs
namespace Go.Proofs.Ytibnakpefjjoiaa.Fs
open Go.RowKit Go.Proofs.YtibnakpefjjoiaaW.PrintWords Go.Proofs.YtibnakpefjjoiaaW.PrintLast Go.Proofs.YtibnakpefjjoiaaW.PrintMore Go.Proofs.Ytibnakpefjjoiaa.Q Go.Proofs.Ytibnakpefjjoiaa.Own
set_option linter.unusedVariables false
set_option linter.unusedSimpArgs false
attribute [local go_sem ↓] Go.wp_at_zero Go.wp_at_succ

/-- What a store is. -/
structure Stt where
  left : Int
  acts : Int
  L : List SF
structure OkS (st : Stt) : Prop where
  a0 : 0 ≤ st.acts
  a1 : st.acts < 1000000
  l0 : -1 ≤ st.left
  l1 : st.left ≤ 9223372036854775807
  n : st.L.length < 900000
  few : ∀ x ∈ st.L, x.f1.length ≤ 100000000
abbrev stoT (p : Nat) (st : Stt) : Th := storeT p st.left st.acts st.L none
def MethPost (B : Nat) (w : World) (p : Nat) (r : Int × Stt) (Ts : List Th) (e : Ending) (w' : World) : Prop := e = .returned (.int .i64 r.1) ∧ Has B w' (stoT p r.2 :: Ts) ∧ Below B w w'
/-- Something is done with a file, if it is there. -/
def onF (st : Stt) (s : ByteArray) (do_ : SF → Int × Stt) : Int × Stt := if st.left = 0 then (30, st) else match findF st.L s.data.toList with | none => (31, st) | some x => do_ x
def syncS (st : Stt) (s : ByteArray) : Int × Stt := onF st s fun x => (0, ⟨leftF st.left, st.acts + 1, withL st.L s ⟨x.f0, x.f1, (x.f1.length : Int)⟩⟩)
theorem with_len {L : List SF} (h : Rise L) (s : ByteArray) (x : SF) : (withL L s x).length ≤ L.length + 1 := by
  unfold withL
  split
  · rw [set_len h]
    split <;> omega
  · omega
set_option maxHeartbeats 2000000 in
set_option maxRecDepth 100000 in
theorem sync_calls {B : Nat} {w : World} {p : Nat} {st : Stt} {Ts : List Th} (h : Has B w (stoT p st :: Ts)) (hg : OkS st) {s : ByteArray} (hs : s.size ≤ 9223372036854775807) :
    Calls Try.prog 18 #[ptr p, .string s] w (MethPost B w p (syncS st s) Ts) := by
  have h1 : Has B (w.alloc (.cells #[ptr p] 24)) (stoT p st :: stT w.heap.size p :: Ts) := (h.box #[ptr p] 24).swap
  have HB1 : Aside0 (Below B w (w.alloc (.cells #[ptr p] 24))) := ⟨(Below.refl B w).alloc h.size _⟩
  have HW : Aside0 (Calls Try.prog 36 #[ptr p, .string s, .func (.func 41) #[] #[ptr w.heap.size]] (w.alloc (.cells #[ptr p] 24)) (MethPost B (w.alloc (.cells #[ptr p] 24)) p (syncS st s) (stT w.heap.size p :: Ts))) := ⟨by
    unfold syncS onF
    by_cases hl : st.left = 0
    · rw [if_pos hl]
      exact with_refused h1 s hl _
    · rw [if_neg hl]
      cases hx : findF st.L s.data.toList with
      | none => exact with_missing h1 hs hx hl _
      | some x => exact with_sync h1 hs hx hl (by have := hg.n; omega) (fun A c b w1 h => clo_sync h hg.a0 hg.a1 hg.l0 hg.l1)⟩
  clear h h1 hg hs
  generalize syncS st s = r at HW ⊢
  go_enter Try.func18, Try.ntmps18
  go_wp2_with fail
  refine HW.out.mono ?_
  rintro e w2 ⟨rfl, hA, hB⟩
  have HA := Aside0.mk hA.swap.tail
  have HB := Aside0.mk (HB1.out.trans hB)
  clear hA hB HW
  go_wp2_with fail
  go_ret
  exact ⟨rfl, HA.out, HB.out⟩
def removeS (st : Stt) (s : ByteArray) : Int × Stt := onF st s fun x => (0, ⟨leftF st.left, st.acts + 1, withL (cutF st.L s.data.toList) s x⟩)
theorem cut_le (L : List SF) (n : List UInt8) : (cutF L n).length ≤ L.length := List.length_filter_le _ L
set_option maxHeartbeats 2000000 in
set_option maxRecDepth 100000 in
theorem remove_calls {B : Nat} {w : World} {p : Nat} {st : Stt} {Ts : List Th} (h : Has B w (stoT p st :: Ts)) (hg : OkS st) {s : ByteArray} (hs : s.size ≤ 9223372036854775807) :
    Calls Try.prog 22 #[ptr p, .string s] w (MethPost B w p (removeS st s) Ts) := by
  have h0 : Has B (w.alloc (.cells #[ptr p] 24)) (stoT p st :: stT w.heap.size p :: Ts) := (h.box #[ptr p] 24).swap
  have h1 : Has B ((w.alloc (.cells #[ptr p] 24)).alloc (.cells #[.string s] 9)) (stoT p st :: stT w.heap.size p :: nmT (w.heap.size + 1) s :: Ts) := by
    have := h0.box #[.string s] 9
    rw [World.size_alloc] at this
    exact this.swap.third.swap
  have HB1 : Aside0 (Below B w ((w.alloc (.cells #[ptr p] 24)).alloc (.cells #[.string s] 9))) := ⟨((Below.refl B w).alloc h.size _).alloc h0.size _⟩
  have HW : Aside0 (Calls Try.prog 36 #[ptr p, .string s, .func (.func 42) #[] #[ptr w.heap.size, ptr (w.heap.size + 1)]] ((w.alloc (.cells #[ptr p] 24)).alloc (.cells #[.string s] 9)) (MethPost B ((w.alloc (.cells #[ptr p] 24)).alloc (.cells #[.string s] 9)) p (removeS st s) (stT w.heap.size p :: nmT (w.heap.size + 1) s :: Ts))) := ⟨by
    unfold removeS onF
    by_cases hl : st.left = 0
    · rw [if_pos hl]
      exact with_refused h1 s hl _
    · rw [if_neg hl]
      cases hx : findF st.L s.data.toList with
      | none => exact with_missing h1 hs hx hl _
      | some x => exact with_remove h1 hs hx hl (by have := hg.n; have := cut_le st.L s.data.toList; omega) (fun A c b w1 h => clo_remove hs h hg.a0 hg.a1 hg.l0 hg.l1)⟩
  have q1 : ((w.alloc (.cells #[ptr p] 24)).alloc (.cells #[.string s] 9)).cell? ⟨w.heap.size, 0, none⟩ = some (ptr p) := box_mem h1 (b := w.heap.size) (cs := #[ptr p]) (t := 24) (by simp) 0
  clear h h0 h1 hg hs
  generalize removeS st s = r at HW ⊢
  go_enter Try.func22, Try.ntmps22
  go_wp2_with fail
  refine HW.out.mono ?_
  rintro e w2 ⟨rfl, hA, hB⟩
  have HA := Aside0.mk hA.swap.tail.swap.tail
  have HB := Aside0.mk (HB1.out.trans hB)
  clear hA hB HW
  go_wp2_with fail
  go_ret
  exact ⟨rfl, HA.out, HB.out⟩
end Go.Proofs.Ytibnakpefjjoiaa.Fs
namespace Go.Proofs.Ytibnakpefjjoiaa.Fs
open Go.RowKit Go.Proofs.YtibnakpefjjoiaaW.PrintWords Go.Proofs.YtibnakpefjjoiaaW.PrintLast Go.Proofs.YtibnakpefjjoiaaW.PrintMore Go.Proofs.Ytibnakpefjjoiaa.Q Go.Proofs.Ytibnakpefjjoiaa.Own
set_option linter.unusedVariables false
set_option linter.unusedSimpArgs false
attribute [local go_sem ↓] Go.wp_at_zero Go.wp_at_succ

def truncS (st : Stt) (s : ByteArray) (n : Int) : Int × Stt := onF st s fun x => if n < 0 ∨ (x.f1.length : Int) < n then (2, ⟨st.left, st.acts, withL st.L s x⟩) else (0, ⟨leftF st.left, st.acts + 1, withL st.L s ⟨x.f0, x.f1.take n.toNat, minI x.f2 n⟩⟩)
set_option maxHeartbeats 2000000 in
set_option maxRecDepth 100000 in
theorem trunc_calls {B : Nat} {w : World} {p : Nat} {st : Stt} {Ts : List Th} (h : Has B w (stoT p st :: Ts)) (hg : OkS st) {s : ByteArray} (hs : s.size ≤ 9223372036854775807) (n : Int) :
    Calls Try.prog 12 #[ptr p, .string s, .int .i64 n] w (MethPost B w p (truncS st s n) Ts) := by
  have h0 : Has B (w.alloc (.cells #[ptr p] 24)) (stoT p st :: stT w.heap.size p :: Ts) := (h.box #[ptr p] 24).swap
  have h1 : Has B ((w.alloc (.cells #[ptr p] 24)).alloc (.cells #[.int .i64 n] 3)) (stoT p st :: nT (w.heap.size + 1) n :: stT w.heap.size p :: Ts) := by
    have := h0.box #[.int .i64 n] 3
    rw [World.size_alloc] at this
    exact this.swap
  have HB1 : Aside0 (Below B w ((w.alloc (.cells #[ptr p] 24)).alloc (.cells #[.int .i64 n] 3))) := ⟨((Below.refl B w).alloc h.size _).alloc h0.size _⟩
  have HW : Aside0 (Calls Try.prog 36 #[ptr p, .string s, .func (.func 37) #[] #[ptr (w.heap.size + 1), ptr w.heap.size]] ((w.alloc (.cells #[ptr p] 24)).alloc (.cells #[.int .i64 n] 3)) (MethPost B ((w.alloc (.cells #[ptr p] 24)).alloc (.cells #[.int .i64 n] 3)) p (truncS st s n) (nT (w.heap.size + 1) n :: stT w.heap.size p :: Ts))) := ⟨by
    unfold truncS onF
    by_cases hl : st.left = 0
    · rw [if_pos hl]
      exact with_refused h1 s hl _
    · rw [if_neg hl]
      cases hx : findF st.L s.data.toList with
      | none => exact with_missing h1 hs hx hl _
      | some x =>
        dsimp only
        by_cases hn : n < 0 ∨ (x.f1.length : Int) < n
        · rw [if_pos hn]
          exact with_trunc h1 hs hx hl (by have := hg.n; omega) (fun A c b w1 h => clo_trunc_bad n hn h)
        · rw [if_neg hn]
          have e : n = ((n.toNat : Nat) : Int) := by omega
          have hle : n.toNat ≤ x.f1.length := by omega
          have hk := fun (A : Option Addr) (c b : Nat) (w1 : World) (h : Has B w1 (storeT p st.left st.acts st.L (some ⟨b, x, A, c⟩) :: nT (w.heap.size + 1) ((n.toNat : Nat) : Int) :: stT w.heap.size p :: Ts)) => clo_trunc n.toNat hle h hg.a0 hg.a1 hg.l0 hg.l1
          rw [← e] at hk
          exact with_trunc h1 hs hx hl (by have := hg.n; omega) hk⟩
  have q1 : ((w.alloc (.cells #[ptr p] 24)).alloc (.cells #[.int .i64 n] 3)).cell? ⟨w.heap.size, 0, none⟩ = some (ptr p) := box_mem h1 (b := w.heap.size) (cs := #[ptr p]) (t := 24) (by simp) 0
  clear h h0 h1 hg hs
  generalize truncS st s n = r at HW ⊢
  go_enter Try.func12, Try.ntmps12
  go_wp2_with fail
  refine HW.out.mono ?_
  rintro e w2 ⟨rfl, hA, hB⟩
  have HA := Aside0.mk hA.swap.tail.swap.tail
  have HB := Aside0.mk (HB1.out.trans hB)
  clear hA hB HW
  go_wp2_with fail
  go_ret
  exact ⟨rfl, HA.out, HB.out⟩
def renameS (st : Stt) (s m : ByteArray) : Int × Stt := onF st s fun x => if mayF m = true then (0, ⟨leftF st.left, st.acts + 1, withL (setF (cutF st.L s.data.toList) ⟨m, x.f1, x.f2⟩) s x⟩) else (2, ⟨st.left, st.acts, withL st.L s x⟩)
theorem ins_len (L : List SF) (x : SF) : (insF L x).length = L.length + 1 := (ins_perm L x).length_eq
set_option maxHeartbeats 2000000 in
set_option maxRecDepth 100000 in
theorem rename_calls {B : Nat} {w : World} {p : Nat} {st : Stt} {Ts : List Th} (h : Has B w (stoT p st :: Ts)) (hg : OkS st) {s m : ByteArray} (hs : s.size ≤ 9223372036854775807) (hm : m.size ≤ 9223372036854775807) :
    Calls Try.prog 14 #[ptr p, .string s, .string m] w (MethPost B w p (renameS st s m) Ts) := by
  have h0 : Has B (w.alloc (.cells #[ptr p] 24)) (stoT p st :: stT w.heap.size p :: Ts) := (h.box #[ptr p] 24).swap
  have h1 : Has B ((w.alloc (.cells #[ptr p] 24)).alloc (.cells #[.string s] 9)) (stoT p st :: stT w.heap.size p :: nmT (w.heap.size + 1) s :: Ts) := by
    have := h0.box #[.string s] 9
    rw [World.size_alloc] at this
    exact this.swap.third.swap
  have h2 : Has B (((w.alloc (.cells #[ptr p] 24)).alloc (.cells #[.string s] 9)).alloc (.cells #[.string m] 9)) (stoT p st :: nmT (w.heap.size + 1 + 1) m :: stT w.heap.size p :: nmT (w.heap.size + 1) s :: Ts) := by
    have := h1.box #[.string m] 9
    rw [World.size_alloc, World.size_alloc] at this
    exact this.swap
  have HB1 : Aside0 (Below B w (((w.alloc (.cells #[ptr p] 24)).alloc (.cells #[.string s] 9)).alloc (.cells #[.string m] 9))) := ⟨(((Below.refl B w).alloc h.size _).alloc h0.size _).alloc h1.size _⟩
  have HW : Aside0 (Calls Try.prog 36 #[ptr p, .string s, .func (.func 40) #[] #[ptr (w.heap.size + 1 + 1), ptr w.heap.size, ptr (w.heap.size + 1)]] (((w.alloc (.cells #[ptr p] 24)).alloc (.cells #[.string s] 9)).alloc (.cells #[.string m] 9)) (MethPost B (((w.alloc (.cells #[ptr p] 24)).alloc (.cells #[.string s] 9)).alloc (.cells #[.string m] 9)) p (renameS st s m) (nmT (w.heap.size + 1 + 1) m :: stT w.heap.size p :: nmT (w.heap.size + 1) s :: Ts))) := ⟨by
    unfold renameS onF
    by_cases hl : st.left = 0
    · rw [if_pos hl]
      exact with_refused h2 s hl _
    · rw [if_neg hl]
      cases hx : findF st.L s.data.toList with
      | none => exact with_missing h2 hs hx hl _
      | some x =>
        dsimp only
        have hc := cut_le st.L s.data.toList
        cases hy : mayF m with
        | true =>
          rw [if_pos rfl]
          refine with_rename h2 hs hx hl ?_ (fun A c b w1 h => clo_rename hm hs h hg.a0 hg.a1 hg.l0 hg.l1 (by have := hg.n; omega) hy)
          unfold setF
          rw [ins_len]
          have := cut_le (cutF st.L s.data.toList) (nameL ⟨m, x.f1, x.f2⟩)
          have := hg.n
          omega
        | false =>
          rw [if_neg (by decide)]
          exact with_rename h2 hs hx hl (by have := hg.n; omega) (fun A c b w1 h => clo_rename_bad hm h hy)⟩
  have q1 : (((w.alloc (.cells #[ptr p] 24)).alloc (.cells #[.string s] 9)).alloc (.cells #[.string m] 9)).cell? ⟨w.heap.size, 0, none⟩ = some (ptr p) := box_mem h2 (b := w.heap.size) (cs := #[ptr p]) (t := 24) (by simp) 0
  have q2 : (((w.alloc (.cells #[ptr p] 24)).alloc (.cells #[.string s] 9)).alloc (.cells #[.string m] 9)).cell? ⟨w.heap.size + 1, 0, none⟩ = some (.string s) := box_mem h2 (b := w.heap.size + 1) (cs := #[.string s]) (t := 9) (by simp) 0
  clear h h0 h1 h2 hg hs
  generalize renameS st s m = r at HW ⊢
  go_enter Try.func14, Try.ntmps14
  go_wp2_with fail
  refine HW.out.mono ?_
  rintro e w2 ⟨rfl, hA, hB⟩
  have HA := Aside0.mk hA.swap.tail.swap.tail.swap.tail
  have HB := Aside0.mk (HB1.out.trans hB)
  clear hA hB HW
  go_wp2_with fail
  go_ret
  exact ⟨rfl, HA.out, HB.out⟩
/-- What is told of a file. -/
def toldE (st : Stt) (s : ByteArray) : Int := if st.left = 0 then 30 else match findF st.L s.data.toList with | none => 31 | some _ => 0
def toldX (st : Stt) (s : ByteArray) : SF := if st.left = 0 then zF else (findF st.L s.data.toList).getD zF
/-- A store that was told of is as it was. -/
theorem with_same {L : List SF} (hr : Rise L) {s : ByteArray} {x : SF} (hx : findF L s.data.toList = some x) : withL L s x = L := by
  obtain ⟨h1, h2⟩ := find_mem hx
  have hxs : x.f0 = s := by
    have : x.f0.data.toList = s.data.toList := h2
    exact ByteArray.ext (Array.ext' this)
  have e : (⟨s, x.f1, x.f2⟩ : SF) = x := by rw [← hxs]
  unfold withL
  rw [hx, if_pos (show (some x).isSome = true from rfl), e]
  have hp : (setF L x).Perm L := by
    refine (ins_perm _ x).trans ?_
    obtain ⟨l1, l2, rfl⟩ := List.append_of_mem h1
    have hu := rise_unlike hr
    have hc : cutF (l1 ++ x :: l2) (nameL x) = l1 ++ l2 := by
      unfold cutF
      rw [List.filter_append, List.filter_cons, if_neg (by simp), List.filter_eq_self.2 ?_, List.filter_eq_self.2 ?_]
      · intro y hy
        rw [bne_iff_ne]
        exact Ne.symm ((List.pairwise_cons.1 (List.pairwise_append.1 hu).2.1).1 y hy)
      · intro y hy
        rw [bne_iff_ne]
        exact (List.pairwise_append.1 hu).2.2 y hy x (List.mem_cons_self ..)
    rw [hc]
    exact List.perm_middle.symm
  exact List.Perm.eq_of_pairwise (le := fun a b : SF => nameL a < nameL b) (fun a b _ _ q1 q2 => absurd q2 (lt_asymm' q1)) (set_rise hr x) hr hp
set_option maxHeartbeats 2000000 in
set_option maxRecDepth 100000 in
theorem size_calls {B : Nat} {w : World} {p : Nat} {st : Stt} {Ts : List Th} (h : Has B w (stoT p st :: Ts)) (hr : Rise st.L) (hg : OkS st) {s : ByteArray} (hs : s.size ≤ 9223372036854775807) :
    Calls Try.prog 29 #[ptr p, .string s] w fun e w' => e = .returned (.tuple #[.int .i64 ((toldX st s).f1.length : Int), .int .i64 (toldE st s)]) ∧ Has B w' (stoT p st :: Ts) ∧ Below B w w' := by
  have h1 : Has B (w.alloc (.cells #[.int .i64 0] 3)) (stoT p st :: nT w.heap.size 0 :: Ts) := (h.box #[.int .i64 0] 3).swap
  have HB1 : Aside0 (Below B w (w.alloc (.cells #[.int .i64 0] 3))) := ⟨(Below.refl B w).alloc h.size _⟩
  have HW : Aside0 (Calls Try.prog 36 #[ptr p, .string s, .func (.func 54) #[] #[ptr w.heap.size]] (w.alloc (.cells #[.int .i64 0] 3)) (MethPost B (w.alloc (.cells #[.int .i64 0] 3)) p (toldE st s, st) (nT w.heap.size ((toldX st s).f1.length : Int) :: Ts))) := ⟨by
    unfold toldE toldX
    by_cases hl : st.left = 0
    · rw [if_pos hl, if_pos hl]
      exact with_refused h1 s hl _
    · rw [if_neg hl, if_neg hl]
      cases hx : findF st.L s.data.toList with
      | none => exact with_missing h1 hs hx hl _
      | some x =>
        have hw := with_size h1 hs hx hl (by have := hg.n; omega) (fun A c b w1 h => clo_size h)
        rw [with_same hr hx] at hw
        exact hw⟩
  clear h h1 hg hs hr
  generalize toldE st s = r at HW ⊢
  generalize ((toldX st s).f1.length : Int) = y at HW ⊢
  go_enter Try.func29, Try.ntmps29
  go_wp2_with fail
  refine HW.out.mono ?_
  rintro e w2 ⟨rfl, hA, hB⟩
  dsimp only at hA
  generalize w.heap.size = b1 at hA ⊢
  obtain ⟨qa, qf, -, -⟩ := Has.box_cell hA (b := b1) (cs := #[.int .i64 y]) (t := 3) (by simp)
  have q0 : w2.cell? ⟨b1, 0, none⟩ = some (.int .i64 y) := qa 0
  have f0 := qf 0
  obtain ⟨hA2, hB2⟩ := hA.swap.box_set 0 (.int .i64 y)
  obtain ⟨qb, -, -, -⟩ := Has.box_cell hA2 (b := b1) (cs := #[.int .i64 y]) (t := 3) (by simp)
  have q1 : (w2.setCell ⟨b1, 0, none⟩ (.int .i64 y)).cell? ⟨b1, 0, none⟩ = some (.int .i64 y) := qb 0
  have HA := Aside0.mk hA2.tail
  have HB := Aside0.mk ((HB1.out.trans hB).trans hB2)
  clear hA hB hA2 hB2 qa qb qf HW
  go_wp2_with fail
  refine bodyPost_ret (v := .tuple #[.int .i64 y, .int .i64 r]) (by simp [results, Try.results29, go_sem, q1]) rfl ?_
  exact ⟨rfl, HA.out, HB.out⟩
set_option maxHeartbeats 2000000 in
set_option maxRecDepth 100000 in
theorem synced_calls {B : Nat} {w : World} {p : Nat} {st : Stt} {Ts : List Th} (h : Has B w (stoT p st :: Ts)) (hr : Rise st.L) (hg : OkS st) {s : ByteArray} (hs : s.size ≤ 9223372036854775807) :
    Calls Try.prog 23 #[ptr p, .string s] w fun e w' => e = .returned (.tuple #[.int .i64 (toldX st s).f2, .int .i64 (toldE st s)]) ∧ Has B w' (stoT p st :: Ts) ∧ Below B w w' := by
  have h1 : Has B (w.alloc (.cells #[.int .i64 0] 3)) (stoT p st :: nT w.heap.size 0 :: Ts) := (h.box #[.int .i64 0] 3).swap
  have HB1 : Aside0 (Below B w (w.alloc (.cells #[.int .i64 0] 3))) := ⟨(Below.refl B w).alloc h.size _⟩
  have HW : Aside0 (Calls Try.prog 36 #[ptr p, .string s, .func (.func 43) #[] #[ptr w.heap.size]] (w.alloc (.cells #[.int .i64 0] 3)) (MethPost B (w.alloc (.cells #[.int .i64 0] 3)) p (toldE st s, st) (nT w.heap.size (toldX st s).f2 :: Ts))) := ⟨by
    unfold toldE toldX
    by_cases hl : st.left = 0
    · rw [if_pos hl, if_pos hl]
      exact with_refused h1 s hl _
    · rw [if_neg hl, if_neg hl]
      cases hx : findF st.L s.data.toList with
      | none => exact with_missing h1 hs hx hl _
      | some x =>
        have hw := with_synced h1 hs hx hl (by have := hg.n; omega) (fun A c b w1 h => clo_synced h)
        rw [with_same hr hx] at hw
        exact hw⟩
  clear h h1 hg hs hr
  generalize toldE st s = r at HW ⊢
  generalize (toldX st s).f2 = y at HW ⊢
  go_enter Try.func23, Try.ntmps23
  go_wp2_with fail
  refine HW.out.mono ?_
  rintro e w2 ⟨rfl, hA, hB⟩
  dsimp only at hA
  generalize w.heap.size = b1 at hA ⊢
  obtain ⟨qa, qf, -, -⟩ := Has.box_cell hA (b := b1) (cs := #[.int .i64 y]) (t := 3) (by simp)
  have q0 : w2.cell? ⟨b1, 0, none⟩ = some (.int .i64 y) := qa 0
  have f0 := qf 0
  obtain ⟨hA2, hB2⟩ := hA.swap.box_set 0 (.int .i64 y)
  obtain ⟨qb, -, -, -⟩ := Has.box_cell hA2 (b := b1) (cs := #[.int .i64 y]) (t := 3) (by simp)
  have q1 : (w2.setCell ⟨b1, 0, none⟩ (.int .i64 y)).cell? ⟨b1, 0, none⟩ = some (.int .i64 y) := qb 0
  have HA := Aside0.mk hA2.tail
  have HB := Aside0.mk ((HB1.out.trans hB).trans hB2)
  clear hA hB hA2 hB2 qa qb qf HW
  go_wp2_with fail
  refine bodyPost_ret (v := .tuple #[.int .i64 y, .int .i64 r]) (by simp [results, Try.results23, go_sem, q1]) rfl ?_
  exact ⟨rfl, HA.out, HB.out⟩
end Go.Proofs.Ytibnakpefjjoiaa.Fs
namespace Go.Proofs.Ytibnakpefjjoiaa.Fs
open Go.RowKit Go.Proofs.YtibnakpefjjoiaaW.PrintWords Go.Proofs.YtibnakpefjjoiaaW.PrintLast Go.Proofs.YtibnakpefjjoiaaW.PrintMore Go.Proofs.Ytibnakpefjjoiaa.Q Go.Proofs.Ytibnakpefjjoiaa.Own
set_option linter.unusedVariables false
set_option linter.unusedSimpArgs false
attribute [local go_sem ↓] Go.wp_at_zero Go.wp_at_succ
attribute [local go_sem] Opn.str_leq Opn.str_gtr Opn.str_geq max2_int min2_int max_two min_two max_three min_three max_four min_four

/-- What a reading tells: a row of the caller's own, and why not. -/
def ReadPost (B : Nat) (w : World) (p : Nat) (st : Stt) (s : ByteArray) (Ts : List Th) (e : Ending) (w' : World) : Prop := ∃ v, e = .returned (.tuple #[v, .int .i64 (toldE st s)]) ∧ Has B w' (stoT p st :: rowB v (toldX st s).f1 :: Ts) ∧ Below B w w'
set_option maxHeartbeats 2000000 in
set_option maxRecDepth 100000 in
theorem read_calls {B : Nat} {w : World} {p : Nat} {st : Stt} {Ts : List Th} (h : Has B w (stoT p st :: Ts)) (hr : Rise st.L) (hg : OkS st) {s : ByteArray} (hs : s.size ≤ 9223372036854775807) :
    Calls Try.prog 13 #[ptr p, .string s] w (ReadPost B w p st s Ts) := by
  have h1 : Has B (w.alloc (.cells #[.slice none 0 0] 23)) (stoT p st :: bT w.heap.size (.slice none 0 0) :: Ts) := (h.box #[.slice none 0 0] 23).swap
  have HB1 : Aside0 (Below B w (w.alloc (.cells #[.slice none 0 0] 23))) := ⟨(Below.refl B w).alloc h.size _⟩
  have HW : Aside0 (Calls Try.prog 36 #[ptr p, .string s, .func (.func 38) #[] #[ptr w.heap.size]] (w.alloc (.cells #[.slice none 0 0] 23)) (fun e w' => ∃ v, MethPost B (w.alloc (.cells #[.slice none 0 0] 23)) p (toldE st s, st) (bT w.heap.size v :: rowB v (toldX st s).f1 :: Ts) e w')) := ⟨by
    unfold toldE toldX
    have nil : ∀ {e : Ending} {w' : World} {r : Int}, StPost B (w.alloc (.cells #[.slice none 0 0] 23)) p st.left st.acts st.L (bT w.heap.size (.slice none 0 0) :: Ts) r e w' → ∃ v, MethPost B (w.alloc (.cells #[.slice none 0 0] 23)) p (r, st) (bT w.heap.size v :: rowB v zF.f1 :: Ts) e w' := fun ⟨a1, a2, a3⟩ => ⟨.slice none 0 0, a1, (a2.row (Below.refl _ _) (Kd.R_nil kB 5 _ _ _)).third.back3.swap.third.swap.third.swap |> fun q => by
      have q2 := a2.row (Below.refl _ _) (Kd.R_nil kB 5 _ _ _)
      exact q2.swap.third.swap.back3.third.swap.third.swap.third |> fun _ => q2.perm ((List.Perm.swap _ _ _).trans (List.Perm.cons _ (List.Perm.swap _ _ _))), a3⟩
    by_cases hl : st.left = 0
    · rw [if_pos hl, if_pos hl]
      exact (with_refused h1 s hl _).mono fun e w' hp => nil hp
    · rw [if_neg hl, if_neg hl]
      cases hx : findF st.L s.data.toList with
      | none => exact (with_missing h1 hs hx hl _).mono fun e w' hp => nil hp
      | some x =>
        have hm : x.f1.length ≤ 100000000 := hg.few x (find_mem hx).1
        have hw := with_read (Ts' := fun v => bT w.heap.size v :: rowB v x.f1 :: Ts) h1 hs hx hl (by have := hg.n; omega) (fun A c b w1 h => clo_read hm h)
        rw [with_same hr hx] at hw
        exact hw⟩
  clear h h1 hg hs hr
  unfold ReadPost
  generalize toldE st s = r at HW ⊢
  generalize (toldX st s).f1 = ys at HW ⊢
  go_enter Try.func13, Try.ntmps13
  go_wp2_with fail
  refine HW.out.mono ?_
  rintro e w2 ⟨v, rfl, hA, hB⟩
  dsimp only at hA
  generalize w.heap.size = b1 at hA ⊢
  obtain ⟨A, c, rfl, -, -⟩ := hA.reads (d := kB) (e := 5) (v := v) (xs := ys) (by simp)
  obtain ⟨qa, qf, -, -⟩ := Has.box_cell hA (b := b1) (cs := #[.slice A ys.length c]) (t := 23) (by simp)
  have q0 : w2.cell? ⟨b1, 0, none⟩ = some (.slice A ys.length c) := qa 0
  have f0 := qf 0
  obtain ⟨hA2, hB2⟩ := hA.swap.box_set 0 (.slice A ys.length c)
  obtain ⟨qb, -, -, -⟩ := Has.box_cell hA2 (b := b1) (cs := #[.slice A ys.length c]) (t := 23) (by simp)
  have q1 : (w2.setCell ⟨b1, 0, none⟩ (.slice A ys.length c)).cell? ⟨b1, 0, none⟩ = some (.slice A ys.length c) := qb 0
  have HA := Aside0.mk hA2.tail
  have HB := Aside0.mk ((HB1.out.trans hB).trans hB2)
  clear hA hB hA2 hB2 qa qb qf HW
  go_wp2_with fail
  refine bodyPost_ret (v := .tuple #[.slice A ys.length c, .int .i64 r]) (by simp [results, Try.results13, go_sem, q1]) rfl ?_
  exact ⟨_, rfl, HA.out, HB.out⟩
def maxI (a b : Int) : Int := if a < b then b else a
set_option maxRecDepth 100000 in
theorem dead_calls {B : Nat} {w : World} {p : Nat} {st : Stt} {Ts : List Th} (h : Has B w (stoT p st :: Ts)) :
    Calls Try.prog 19 #[ptr p] w fun e w' => e = .returned (.bool (st.left == 0)) ∧ w = w' := by
  have HN := Aside0.mk (none_calls h)
  obtain ⟨mb, c0, c1, c2, cf, hne, hlt⟩ := store_cells h
  clear h
  go_enter Try.func19, Try.ntmps19
  go_wp2_with fail
  refine HN.out.mono ?_
  rintro e w1 ⟨rfl, rfl⟩
  go_wp2_with fail
  go_ret
  exact ⟨rfl, rfl⟩
set_option maxRecDepth 100000 in
theorem acts_calls {B : Nat} {w : World} {p : Nat} {st : Stt} {Ts : List Th} (h : Has B w (stoT p st :: Ts)) :
    Calls Try.prog 15 #[ptr p] w fun e w' => e = .returned (.int .i64 st.acts) ∧ w = w' := by
  have HN := Aside0.mk (none_calls h)
  obtain ⟨mb, c0, c1, c2, cf, hne, hlt⟩ := store_cells h
  clear h
  go_enter Try.func15, Try.ntmps15
  go_wp2_with fail
  refine HN.out.mono ?_
  rintro e w1 ⟨rfl, rfl⟩
  go_wp2_with fail
  go_ret
  exact ⟨rfl, rfl⟩
set_option maxHeartbeats 1000000 in
set_option maxRecDepth 100000 in
theorem power_calls {B : Nat} {w : World} {p : Nat} {st : Stt} {Ts : List Th} (h : Has B w (stoT p st :: Ts)) (n : Int) :
    Calls Try.prog 17 #[ptr p, .int .i64 n] w fun e w' => e = .returned (.tuple #[]) ∧ Has B w' (stoT p ⟨maxI n (-1), st.acts, st.L⟩ :: Ts) ∧ Below B w w' := by
  have HN := Aside0.mk (none_calls h)
  obtain ⟨mb, c0, c1, c2, cf, hne, hlt⟩ := store_cells h
  generalize hy : maxI n (-1) = y
  have e6 : (if n < -1 then (-1 : Int) else n) = y := hy
  have e7 : max n (-1) = y := by rw [← e6]; omega
  obtain ⟨⟨hA, hB⟩, -⟩ := store_set h y
  have HA := Aside0.mk hA
  have HB := Aside0.mk hB
  have f1 := cf 1
  clear h hA hB cf hy
  go_enter Try.func17, Try.ntmps17
  go_wp2_with fail
  refine HN.out.mono ?_
  rintro e w1 ⟨rfl, rfl⟩
  go_wp2_with fail
  go_end0
  exact ⟨rfl, HA.out, HB.out⟩
theorem files_new {B : Nat} {w : World} {Ts : List Th} (h : Has B w Ts) : Has B ((w.alloc (.map #[] 0)).alloc (.cells #[.map (some w.heap.size), .int .i64 (-1), .int .i64 0] 62)) (stoT (w.heap.size + 1) ⟨-1, 0, []⟩ :: Ts) ∧ Below B w ((w.alloc (.map #[] 0)).alloc (.cells #[.map (some w.heap.size), .int .i64 (-1), .int .i64 0] 62)) := by
  have hb : Below w.heap.size w ((w.alloc (.map #[] 0)).alloc (.cells #[.map (some w.heap.size), .int .i64 (-1), .int .i64 0] 62)) := ((Below.refl _ w).alloc (Nat.le_refl _) _).alloc (by simp) _
  refine ⟨h.new hb (F := fun k => k = w.heap.size ∨ k = w.heap.size + 1) ⟨.inr rfl, w.heap.size, .map [], .inl rfl, by omega, ?_, ?_, files_start _ _, List.Pairwise.nil, fun q e => by cases e⟩ (fun k hk => by
    rw [World.size_alloc, World.size_alloc]
    omega), hb.mono h.size⟩
  · have := blk_new (w.alloc (.map #[] 0)) (.cells #[.map (some w.heap.size), .int .i64 (-1), .int .i64 0] 62)
    rw [World.size_alloc] at this
    exact this
  · exact (World.ownsMap_made w Try.prog 9 RV).alloc _
set_option maxHeartbeats 1000000 in
set_option maxRecDepth 100000 in
theorem new_calls {B : Nat} {w : World} {Ts : List Th} (h : Has B w Ts) :
    Calls Try.prog 9 #[] w fun e w' => ∃ p, e = .returned (ptr p) ∧ Has B w' (stoT p ⟨-1, 0, []⟩ :: Ts) ∧ Below B w w' := by
  have HF := Aside0.mk (files_new h)
  have hmk : (Instr.makeMap 60 none).run Try.prog w = .ok (.map (some w.heap.size)) (w.alloc (.map #[] 0)) := rfl
  clear h
  go_enter Try.func9, Try.ntmps9
  go_wp2_with fail
  go_ret
  exact ⟨_, rfl, HF.out.1, HF.out.2⟩
end Go.Proofs.Ytibnakpefjjoiaa.Fs
namespace Go.Proofs.Ytibnakpefjjoiaa.Fs
open Go.RowKit Go.Proofs.YtibnakpefjjoiaaW.PrintWords Go.Proofs.YtibnakpefjjoiaaW.PrintLast Go.Proofs.YtibnakpefjjoiaaW.PrintMore Go.Proofs.Ytibnakpefjjoiaa.Q Go.Proofs.Ytibnakpefjjoiaa.Own
set_option linter.unusedVariables false
set_option linter.unusedSimpArgs false

theorem cells_u8 {w : World} {ad : Addr} {xs : List Int} (h : Kd.C kB w (some ad) xs.length xs) : ∀ j u, (encs (Value.int .u8) xs)[j]? = some u → w.cell? (ad.add j) = some u := by
  intro j u hu
  unfold encs at hu
  rw [List.getElem?_map] at hu
  obtain ⟨x, hx, rfl⟩ := Option.map_eq_some_iff.1 hu
  have hj : j < xs.length := (List.getElem?_eq_some_iff.1 hx).1
  obtain ⟨ad2, e, hc⟩ := h.2.2 (by omega)
  cases e
  obtain ⟨c, h1, h2, h3⟩ := hc j x hx
  have h2' : c = [.int .u8 x] := h2
  have := h3 0 (.int .u8 x) (by rw [h2']; rfl)
  have e : j * kB.sz + 0 = j := Nat.mul_one j
  rw [e] at this
  exact this
theorem F_of_R {w : World} {base n c : Nat} {ok : Nat → Prop} {A : Option Addr} {xs : List Int} (h : Kd.R kB 5 w base ok (.slice A n c) xs) : Kd.F kB w ok A xs.length xs := fun W' hW => (Kd.R_reads' (Kd.R_step h (fun k hk hlt => hW k hk hlt))).2.2
theorem run_empty {w : World} (ty : TypeId) (A A2 : Option Addr) (n c2 : Nat) : (Builtin.append_ #[23, 23] ty #[.slice A n n, .slice A2 0 c2]).run Try.prog w = .ok (.slice A n n) w := by
  obtain ⟨i0, hi, hz0, hz1, hz2⟩ := info_parts inf5
  refine run_append_nothing w _ _ ty 5 i0 Try.underlying23 hi A n n (Nat.le_refl _) _ ?_
  cases A2 with
  | none => exact Src.ofNil _ Try.underlying23 c2
  | some ad => exact Src.ofSlice _ Try.underlying23 ad 0 c2 [] (by simp) (fun j u h => by simp at h) (fun u h => by simp at h)
theorem full_append {w : World} {ok : Nat → Prop} {A A2 : Option Addr} {c2 : Nat} {xs ys : List Int} (ty : TypeId) (hF : Kd.F kB w ok A xs.length xs) (hC : Kd.C kB w A2 ys.length ys) (hm : xs.length + ys.length ≤ 100000000) :
    ∃ v1 w1 A1 c1, (Builtin.append_ #[23, 23] ty #[.slice A xs.length xs.length, .slice A2 ys.length c2]).run Try.prog w = .ok v1 w1 ∧ Below w.heap.size w w1 ∧ v1 = .slice A1 (xs ++ ys).length c1 ∧ (xs ++ ys).length ≤ c1 ∧ Kd.F kB w1 (fun k => ok k ∨ w.heap.size ≤ k) A1 (xs ++ ys).length (xs ++ ys) := by
  obtain ⟨i0, hi, hz0, hz1, hz2⟩ := info_parts inf5
  rcases ys with _ | ⟨y, ys⟩
  · refine ⟨_, w, A, xs.length, run_empty ty A A2 xs.length c2, Below.refl _ _, by rw [List.append_nil], by rw [List.append_nil]; exact Nat.le_refl _, ?_⟩
    rw [List.append_nil]
    exact Kd.F_mono hF fun k hk => .inl hk
  · obtain ⟨ad2, e2, -⟩ := hC.2.2 (by simp)
    subst e2
    have hnew := cells_u8 hC
    have hlen : (encs (Value.int .u8) (y :: ys)).length = (y :: ys).length * 1 := by simp [encs]
    have fin : ∀ {v1 : Value} {w1 : World}, w1.ownsRow w.heap.size 5 1 v1 (xs.length + (y :: ys).length) (encs (Value.int .u8) xs ++ encs (Value.int .u8) (y :: ys)) → w.grownBy w1 none →
        Below w.heap.size w w1 ∧ ∃ A1 c1, v1 = .slice A1 (xs ++ y :: ys).length c1 ∧ (xs ++ y :: ys).length ≤ c1 ∧ Kd.F kB w1 (fun k => ok k ∨ w.heap.size ≤ k) A1 (xs ++ y :: ys).length (xs ++ y :: ys) := by
      intro v1 w1 ho hg
      have hR : Kd.R kB 5 w1 w.heap.size (fun k => ok k ∨ w.heap.size ≤ k) v1 (xs ++ y :: ys) := by
        have h0 : Kd.R kB 5 w1 w.heap.size (fun _ => True) v1 (xs ++ y :: ys) := Kd.R_of_own (by rw [List.length_append]; unfold encs at ho ⊢; rw [List.map_append]; exact ho) (fun _ _ => trivial)
        exact Kd.R_mono (Kd.R_bound h0) fun k hk => .inr hk.2.1
      obtain ⟨A1, c1, rfl, h1, -⟩ := Kd.R_reads hR
      exact ⟨⟨hg.os, hg.tape, hg.output, hg.size, fun k hk => hg.block k hk (by simp)⟩, A1, c1, rfl, h1, F_of_R hR⟩
    cases A with
    | none =>
      have hx : xs = [] := by
        rcases xs with _ | ⟨x, xs⟩
        · rfl
        · obtain ⟨ad, e, _⟩ := (Kd.F_now hF).2.2 (by simp)
          cases e
      subst hx
      obtain ⟨v1, w1, hrun, h1, h2, -⟩ := run_append_own (P := Try.prog) (w := w) w.heap.size 23 ty 5 i0 (.int .u8 0) 1 1 Try.underlying23 hi hz0 hz1 hz2 rfl (by decide) (.slice none 0 0) 0 [] (own_nil _ _ _ _) ad2 (y :: ys).length c2 (encs (Value.int .u8) (y :: ys)) hlen hnew (fun u hu => by unfold encs at hu; obtain ⟨_, _, rfl⟩ := List.mem_map.1 hu; rfl) (by unfold maxLen; omega) (by omega) (Nat.le_refl _)
      obtain ⟨f1, A1, c1, f2, f3, f4⟩ := fin h1 h2
      exact ⟨v1, w1, A1, c1, hrun, f1, f2, f3, f4⟩
    | some ad =>
      have hold := cells_u8 (Kd.F_now hF)
      obtain ⟨v1, w1, hrun, h1, h2⟩ := run_append_arg_grows (P := Try.prog) w 23 ty 5 i0 (.int .u8 0) 1 1 Try.underlying23 hi hz0 hz1 hz2 rfl (by decide) ad xs.length xs.length (encs (Value.int .u8) xs) (by simp [encs]) hold ad2 (y :: ys).length c2 (encs (Value.int .u8) (y :: ys)) hlen hnew (by simp) (by unfold maxLen; omega) (by omega)
      obtain ⟨f1, A1, c1, f2, f3, f4⟩ := fin h1 h2
      exact ⟨v1, w1, A1, c1, hrun, f1, f2, f3, f4⟩
end Go.Proofs.Ytibnakpefjjoiaa.Fs
namespace Go.Proofs.Ytibnakpefjjoiaa.Fs
open Go.RowKit Go.Proofs.YtibnakpefjjoiaaW.PrintWords Go.Proofs.YtibnakpefjjoiaaW.PrintLast Go.Proofs.YtibnakpefjjoiaaW.PrintMore Go.Proofs.Ytibnakpefjjoiaa.Q Go.Proofs.Ytibnakpefjjoiaa.Own
set_option linter.unusedVariables false
set_option linter.unusedSimpArgs false
attribute [local go_sem ↓] Go.wp_at_zero Go.wp_at_succ

theorem wpList_append_run {P : Program} (w : World) {ops : Array Oper} {rest : List Oper} {o : Oper} {a : Act} {Q : Exit → Act → World → Prop} (hgd : o.guard = none) (s x : Operand) (t tx : TypeId)
    (ho : o.op = .call { callee := .builtin .append, args := #[s, x], argTypes := #[t, tx] }) {v xv v' : Value} {w' : World} (hv : a.eval s = v) (hx : a.eval x = xv) (hrun : (Builtin.append_ #[t, tx] o.type #[v, xv]).run P w = .ok v' w')
    (hK : wpList P ops Q rest (a.put o.dst v') w') : wpList P ops Q (o :: rest) a w := by
  refine wpList_plain hgd fun K hK' => ?_
  unfold Oper.wp
  simp [execOp, ho, resolve, invoke, builtin, hv, hx, hrun, Result.andThen]
  exact hK' _ _ hK
/-- The name's file is open, or an empty one. -/
theorem look_any {B : Nat} {w : World} {p : Nat} {left acts : Int} {L : List SF} {Ts : List Th} (h : Has B w (storeT p left acts L none :: Ts)) {s : ByteArray} (hs : s.size ≤ 9223372036854775807) :
    ∃ mb A c, w.cell? ⟨p, 0, none⟩ = some (.map (some mb)) ∧ (Instr.lookup 60 (.map (some mb)) (.string s) true).run Try.prog w = .ok (.tuple #[fv A ((findF L s.data.toList).getD zF) c, .bool (findF L s.data.toList).isSome]) w ∧
      Has B (w.alloc (.cells #[.slice A ((findF L s.data.toList).getD zF).f1.length c, .int .i64 ((findF L s.data.toList).getD zF).f2] 67)) (storeT p left acts L (some ⟨w.heap.size, (findF L s.data.toList).getD zF, A, c⟩) :: Ts) ∧ Below B w (w.alloc (.cells #[.slice A ((findF L s.data.toList).getD zF).f1.length c, .int .i64 ((findF L s.data.toList).getD zF).f2] 67)) := by
  cases hx : findF L s.data.toList with
  | none =>
    obtain ⟨mb, h1, h2, h3, h4⟩ := look_miss h hs hx
    exact ⟨mb, none, 0, h1, h2, h3, h4⟩
  | some x =>
    obtain ⟨mb, A, c, h1, h2, -, h3, h4⟩ := look_hit h hs hx true
    exact ⟨mb, A, c, h1, h2, h3, h4⟩
/-- Bytes more in the open file. -/
theorem open_app {B : Nat} {w : World} {p : Nat} {left acts : Int} {L : List SF} {q : Op} {Ts : List Th} (h : Has B w (storeT p left acts L (some q) :: Ts)) (ty : TypeId) {A2 : Option Addr} {c2 : Nat} {ys : List Int} (hC : Kd.C kB w A2 ys.length ys) (hm : q.x.f1.length + ys.length ≤ 100000000) :
    ∃ w1 A1 c1, (Builtin.append_ #[23, 23] ty #[.slice q.A q.x.f1.length q.x.f1.length, .slice A2 ys.length c2]).run Try.prog w = .ok (.slice A1 (q.x.f1 ++ ys).length c1) w1 ∧ w1.cell? ⟨q.b, 0, none⟩ = some (.slice q.A q.x.f1.length q.c) ∧ w1.frozen? ⟨q.b, 0, none⟩ = false ∧
      Has B (w1.setCell ⟨q.b, 0, none⟩ (.slice A1 (q.x.f1 ++ ys).length c1)) (storeT p left acts L (some ⟨q.b, ⟨q.x.f0, q.x.f1 ++ ys, q.x.f2⟩, A1, c1⟩) :: Ts) ∧ Below B w (w1.setCell ⟨q.b, 0, none⟩ (.slice A1 (q.x.f1 ++ ys).length c1)) := by
  obtain ⟨F, ⟨hF, mb, D, h1, h2, h3, h4, h5, h6, h7⟩, hFb, put⟩ := h.head
  have hq := h7 q rfl
  obtain ⟨v1, w1, A1, c1, hrun, hb, rfl, hc1, hy⟩ := full_append ty hq.bytes hC hm
  have hlt : ∀ k, F k → k < w.heap.size := fun k hk => (hFb k hk).2
  have hold : ∀ k, F k → w1.heap[k]? = w.heap[k]? := fun k hk => hb.block k (hlt k hk)
  have hbx : w1.heap[q.b]? = some (.cells #[.slice q.A q.x.f1.length q.c, .int .i64 q.x.f2] 67 (0, 0)) := (hold _ hq.mem).trans hq.box
  have hset := blk_set hbx 0 (.slice A1 (q.x.f1 ++ ys).length c1)
  have hfar : ∀ k, k ≠ q.b → (w1.setCell ⟨q.b, 0, none⟩ (.slice A1 (q.x.f1 ++ ys).length c1)).heap[k]? = w1.heap[k]? := fun k hk => Below.heap_setCell w1 ⟨q.b, 0, none⟩ _ k hk
  have hok : ∀ k, okk F p mb (some q) k → okk (fun k => (F k ∨ w.heap.size ≤ k) ∧ k < w1.heap.size) p mb (some ⟨q.b, ⟨q.x.f0, q.x.f1 ++ ys, q.x.f2⟩, A1, c1⟩) k := fun k hk => ⟨⟨.inl hk.1, Nat.lt_of_lt_of_le (hlt k hk.1) hb.size⟩, hk.2.1, hk.2.2.1, fun r e => by cases e; exact hk.2.2.2 q rfl⟩
  obtain ⟨p1, p2⟩ := put (w1.setCell ⟨q.b, 0, none⟩ (.slice A1 (q.x.f1 ++ ys).length c1)) (fun k => (F k ∨ w.heap.size ≤ k) ∧ k < w1.heap.size) (storeT p left acts L (some ⟨q.b, ⟨q.x.f0, q.x.f1 ++ ys, q.x.f2⟩, A1, c1⟩)) (((KeepF.of_below hb).setCell (.inl hq.mem) _))
    ⟨⟨.inl hF, Nat.lt_of_lt_of_le (hlt p hF) hb.size⟩, mb, D, ⟨.inl h1, Nat.lt_of_lt_of_le (hlt mb h1) hb.size⟩, h2, ((hfar p hq.nep.symm).trans (hold p hF)).trans h3, by
        obtain ⟨es, clock, hbm, r⟩ := h4
        exact ⟨es, clock, ((hfar mb hq.nem.symm).trans (hold mb h1)).trans hbm, r⟩, h5.step (fun k hk _ => (hfar k (hk.2.2.2 q rfl)).trans (hold k hk.1)) hok, h6, fun r e => by
      cases e
      refine ⟨⟨.inl hq.mem, Nat.lt_of_lt_of_le (hlt _ hq.mem) hb.size⟩, hq.nep, hq.nem, hset, hc1, ?_⟩
      have hne : ∀ k, okk F p mb (some q) k ∨ w.heap.size ≤ k → k ≠ q.b := fun k hk => hk.elim (fun hk => hk.2.2.2 q rfl) (fun hk e => by have := hlt _ hq.mem; omega)
      refine Kd.F_mono (Kd.F_step (Kd.F_bound hy) fun k hk _ => hfar k (hne k hk.1)) fun k hk => ?_
      rcases hk.1 with hk1 | hk1
      · exact hok k hk1
      · refine ⟨⟨.inr hk1, hk.2⟩, ?_, ?_, fun r e => by cases e; exact hne k hk.1⟩
        · have := hlt p hF
          omega
        · have := hlt mb h1
          omega⟩ (fun k hk => ⟨hk.1, by simpa using hk.2⟩)
  exact ⟨w1, A1, c1, hrun, by rw [blk_cell hbx]; rfl, blk_frozen hbx 0, p1, p2⟩
end Go.Proofs.Ytibnakpefjjoiaa.Fs
namespace Go.Proofs.Ytibnakpefjjoiaa.Fs
open Go.RowKit Go.Proofs.YtibnakpefjjoiaaW.PrintWords Go.Proofs.YtibnakpefjjoiaaW.PrintLast Go.Proofs.YtibnakpefjjoiaaW.PrintMore Go.Proofs.Ytibnakpefjjoiaa.Q Go.Proofs.Ytibnakpefjjoiaa.Own
set_option linter.unusedVariables false
set_option linter.unusedSimpArgs false
attribute [local go_sem ↓] Go.wp_at_zero Go.wp_at_succ

def appendX (st : Stt) (s : ByteArray) : SF := (findF st.L s.data.toList).getD zF
def longF (st : Stt) (s : ByteArray) (n : Nat) : Bool := decide (1048576 - ((appendX st s).f1.length : Int) < (n : Int))
def fullF (st : Stt) (s : ByteArray) : Bool := !(findF st.L s.data.toList).isSome && decide (64 ≤ st.L.length)
def appendS (st : Stt) (s : ByteArray) (ys : List Int) : Int × Stt :=
  if st.left = 0 then (30, st) else if mayF s = false then (2, st) else if longF st s ys.length = true then (3, st) else if fullF st s = true then (4, st)
  else (0, ⟨leftF st.left, st.acts + 1, setF st.L ⟨s, (appendX st s).f1 ++ ys, (appendX st s).f2⟩⟩)
set_option maxHeartbeats 8000000 in
set_option maxRecDepth 100000 in
theorem append_calls {B : Nat} {w : World} {p : Nat} {st : Stt} {Ts : List Th} (h : Has B w (stoT p st :: Ts)) (hg : OkS st) {s : ByteArray} (hs : s.size ≤ 9223372036854775807) {A2 : Option Addr} {c2 : Nat} {ys : List Int} (hC : Kd.C kB w A2 ys.length ys) (hy : ys.length ≤ 10000000) :
    Calls Try.prog 10 #[ptr p, .string s, .slice A2 ys.length c2] w (MethPost B w p (appendS st s ys) Ts) := by
  have HR := Aside0.mk (refuse_calls h)
  have hu := Try.underlying67
  by_cases hl : st.left = 0
  · have e : appendS st s ys = (30, st) := by unfold appendS; rw [if_pos hl]
    rw [e]
    rw [show refuseE st.left = 30 from if_pos hl] at HR
    have HH := Aside0.mk h
    clear h hC hg hs e hl hy
    go_enter Try.func10, Try.ntmps10
    go_wp2_with fail
    refine HR.out.mono ?_
    rintro e w1 ⟨rfl, rfl⟩
    go_wp2_with fail
    go_ret
    exact ⟨rfl, HH.out, Below.refl _ _⟩
  rw [show refuseE st.left = 0 from if_neg hl] at HR
  have hxl : (appendX st s).f1.length ≤ 100000000 := by
    unfold appendX
    cases hx : findF st.L s.data.toList with
    | none => exact Nat.zero_le _
    | some x => exact hg.few x (find_mem hx).1
  obtain ⟨mb, A, c, c0, hrun, hA, hB⟩ := look_any h hs
  have HO : Aside0 (appendS st s ys = if mayF s = false then (2, st) else if longF st s ys.length = true then (3, st) else if fullF st s = true then (4, st) else (0, ⟨leftF st.left, st.acts + 1, setF st.L ⟨s, (appendX st s).f1 ++ ys, (appendX st s).f2⟩⟩)) := ⟨by unfold appendS; rw [if_neg hl]⟩
  change Has B (w.alloc (.cells #[.slice A (appendX st s).f1.length c, .int .i64 (appendX st s).f2] 67)) (storeT p st.left st.acts st.L (some ⟨w.heap.size, appendX st s, A, c⟩) :: Ts) at hA
  change Below B w (w.alloc (.cells #[.slice A (appendX st s).f1.length c, .int .i64 (appendX st s).f2] 67)) at hB
  change (Instr.lookup 60 (.map (some mb)) (.string s) true).run Try.prog w = .ok (.tuple #[fv A (appendX st s) c, .bool (findF st.L s.data.toList).isSome]) w at hrun
  have HFU : Aside0 (fullF st s = (!(findF st.L s.data.toList).isSome && decide (64 ≤ st.L.length))) := ⟨rfl⟩
  have HLO : Aside0 (longF st s ys.length = decide (1048576 - ((appendX st s).f1.length : Int) < (ys.length : Int))) := ⟨rfl⟩
  generalize appendX st s = x at hxl hrun hA hB HO HLO
  generalize (findF st.L s.data.toList).isSome = fd at hrun HFU
  have HA := Aside0.mk hA
  have HB := Aside0.mk hB
  have HS := Aside0.mk hs
  have HG := Aside0.mk hg
  have HCY := Aside0.mk (Kd.C_below hC ((Below.refl _ w).alloc (Nat.le_refl _) (.cells #[.slice A x.f1.length c, .int .i64 x.f2] 67)))
  have HMY := Aside0.mk (may_calls hs (w.alloc (.cells #[.slice A x.f1.length c, .int .i64 x.f2] 67)))
  clear h hA hB hs hg hC hl
  go_enter Try.func10, Try.ntmps10
  go_wp2_with fail
  refine HR.out.mono ?_
  rintro e w1 ⟨rfl, rfl⟩
  go_wp2_with fail
  refine HMY.out.mono ?_
  rintro e w1 ⟨rfl, hd⟩
  obtain ⟨nd, rfl⟩ := hd.out
  clear hd
  have HA1 := Aside0.mk (HA.out.drewN nd)
  have HC1 := Aside0.mk (Kd.C_drewN HCY.out nd)
  have HB1 : Aside0 (Below B w ((w.alloc (.cells #[.slice A x.f1.length c, .int .i64 x.f2] 67)).drewN nd)) := ⟨HB.out.trans ⟨rfl, rfl, rfl, Nat.le_refl _, fun _ _ => rfl⟩⟩
  generalize (w.alloc (.cells #[.slice A x.f1.length c, .int .i64 x.f2] 67)).drewN nd = w2 at HA1 HC1 HB1 ⊢
  generalize w.heap.size = b at HA1 ⊢
  clear HA HB HCY HMY HR c0 hrun
  obtain ⟨b0, b1, bf, hle, -⟩ := open_cells HA1.out
  dsimp only at b0 b1 bf hle
  cases hmy : mayF s with
  | false =>
    rw [hmy, if_pos rfl] at HO
    clear hmy bf
    go_wp2_with fail
    go_ret
    exact ⟨by rw [HO.out]; rfl, by rw [HO.out]; exact store_shut HA1.out, HB1.out⟩
  | true =>
    rw [hmy, if_neg (by decide)] at HO
    clear hmy
    have ew : wrap64 (1048576 - (x.f1.length : Int)) = 1048576 - (x.f1.length : Int) := by unfold wrap64; omega
    cases hlo : longF st s ys.length with
    | true =>
      rw [hlo, if_pos rfl] at HO
      rw [hlo] at HLO
      have d1 : 1048576 - (x.f1.length : Int) < (ys.length : Int) := of_decide_eq_true HLO.out.symm
      have d2 : decide ((ys.length : Int) > 1048576 - (x.f1.length : Int)) = true := decide_eq_true d1
      clear hlo bf
      go_wp2_with fail
      go_ret
      exact ⟨by rw [HO.out]; rfl, by rw [HO.out]; exact store_shut HA1.out, HB1.out⟩
    | false =>
      rw [hlo, if_neg (by decide)] at HO
      rw [hlo] at HLO
      have d1 : ¬ 1048576 - (x.f1.length : Int) < (ys.length : Int) := of_decide_eq_false HLO.out.symm
      have d2 : decide ((ys.length : Int) > 1048576 - (x.f1.length : Int)) = false := decide_eq_false d1
      clear hlo
      obtain ⟨mb2, e0, hlen⟩ := len_run HA1.out 3
      cases hfu : fullF st s with
      | true =>
        rw [hfu, if_pos rfl] at HO
        rw [hfu] at HFU
        have hfd : fd = false ∧ 64 ≤ st.L.length := by
          have := HFU.out.symm
          simpa using this
        obtain ⟨rfl, h64⟩ := hfd
        have d3 : decide ((st.L.length : Int) ≥ 64) = true := decide_eq_true (by omega)
        have d4 : (64 : Int) ≤ (st.L.length : Int) := by omega
        clear hfu bf
        go_wp2_with fail
        go_ret
        exact ⟨by rw [HO.out]; rfl, by rw [HO.out]; exact store_shut HA1.out, HB1.out⟩
      | false =>
        rw [hfu, if_neg (by decide)] at HO
        rw [hfu] at HFU
        have hL : Aside0 (st.L.length < 1000000) := ⟨by have := HG.out.n; omega⟩
        obtain ⟨w5, A1, c1, happ, a0, af, hA5, hB5⟩ := open_app HA1.out 23 (c2 := c2) HC1.out (by dsimp only; omega)
        dsimp only at happ a0 af hA5 hB5
        have HA5 := Aside0.mk hA5
        have HB5 := Aside0.mk (HB1.out.trans hB5)
        clear hA5 hB5 bf hfu
        obtain ⟨g0, g1, -, -, -⟩ := open_cells HA5.out
        dsimp only at g0 g1
        obtain ⟨mb3, w7, k0, hput, hA7, hB7⟩ := put_run HA5.out.drew HS.out hL.out
        dsimp only at hput hA7
        have HACT := Aside0.mk (act_calls hA7 HG.out.a0 HG.out.a1 HG.out.l0 HG.out.l1)
        have HB7 := Aside0.mk ((HB5.out.trans (below_drew (Below.refl _ _))).trans hB7)
        have k0' : (w5.setCell ⟨b, 0, none⟩ (.slice A1 (x.f1 ++ ys).length c1)).cell? ⟨p, 0, none⟩ = some (.map (some mb3)) := k0
        clear hA7 hB7 k0
        have lab : (x.f1 ++ ys).length = x.f1.length + ys.length := List.length_append
        unfold fv at hput
        dsimp only at hput
        rw [lab] at hput g0 g1 k0' happ
        clear lab
        have FIN : ∀ (fd2 : Bool), fd = fd2 → (fd2 = true ∨ (fd2 = false ∧ decide ((st.L.length : Int) ≥ 64) = false ∧ ¬ (64 : Int) ≤ (st.L.length : Int))) := by
          intro fd2 e
          subst e
          cases fd with
          | true => exact .inl rfl
          | false =>
            have := HFU.out.symm
            simp at this
            exact .inr ⟨rfl, decide_eq_false (by omega), by omega⟩
        rcases FIN fd rfl with rfl | ⟨rfl, d3, d4⟩
        · go_wp2_with (refine wpList_append_run _ rfl _ _ 23 23 rfl rfl rfl happ ?_)
          refine start_ (n := 7) (S := fun w' => w'.cell? ⟨p, 0, none⟩ = some (.map (some mb3)) ∧ w'.cell? ⟨b, 0, none⟩ = some (.slice A1 (x.f1.length + ys.length) c1) ∧ w'.cell? ⟨b, 1, none⟩ = some (.int .i64 x.f2)) (ds := [6]) #[false, false, false, false, false, false, false] (by kernel_rfl) rfl rfl ⟨k0', g0, g1⟩ (fun hHeld => ?_)
          refine pure_ (i := 0) (N := some 59) (v := ?_) (a' := ?_) #[true, false, false, false, false, false, false] rfl rfl (by kernel_rfl) (fun _ _ _ h => h) (Or.inl ⟨by rfl, ?_⟩) ?_ ?_
          rotate_left
          · intro w'
            go_simp
            with_reducible rfl
          rotate_left
          · simp only [Act.put, List.setIfInBounds_toArray, List.set_cons_zero, List.set_cons_succ, i64_w, i32_w]
            rfl
          refine pure_ (i := 1) (N := some 60) (v := ?_) (a' := ?_) #[true, true, false, false, false, false, false] rfl rfl (by kernel_rfl) (fun _ _ _ h => h) (Or.inl ⟨by rfl, ?_⟩) ?_ ?_
          rotate_left
          · intro w'
            go_simp
            with_reducible rfl
          rotate_left
          · simp only [Act.put, List.setIfInBounds_toArray, List.set_cons_zero, List.set_cons_succ, i64_w, i32_w]
            rfl
          refine pure_ (i := 2) (N := some 61) (v := ?_) (a' := ?_) #[true, true, true, false, false, false, false] rfl rfl (by kernel_rfl) (fun _ _ _ h => h) (Or.inl ⟨by rfl, ?_⟩) ?_ ?_
          rotate_left
          · intro w'
            go_simp
            with_reducible rfl
          rotate_left
          · simp only [Act.put, List.setIfInBounds_toArray, List.set_cons_zero, List.set_cons_succ, i64_w, i32_w]
            rfl
          refine pure_ (i := 4) (N := some 63) (v := ?_) (a' := ?_) #[true, true, true, false, true, false, false] rfl rfl (by kernel_rfl) (fun _ _ _ h => h) (Or.inl ⟨by rfl, ?_⟩) ?_ ?_
          rotate_left
          · intro w'
            go_simp
            with_reducible rfl
          rotate_left
          · simp only [Act.put, List.setIfInBounds_toArray, List.set_cons_zero, List.set_cons_succ, i64_w, i32_w]
            rfl
          refine take_ (i := 3) (N := some 62) (v := ?_) (a' := ?_) #[true, true, true, true, true, false, false] rfl rfl (by kernel_rfl) (fun _ _ _ h => h) (Or.inl ⟨by rfl, ?_⟩) hHeld ?_ ?_
          rotate_left
          · rintro w' ⟨s0, s1, s2⟩
            go_simp
            with_reducible rfl
          rotate_left
          · simp only [Act.put, List.setIfInBounds_toArray, List.set_cons_zero, List.set_cons_succ, i64_w, i32_w]
            rfl
          refine take_ (i := 5) (N := some 64) (v := ?_) (a' := ?_) #[true, true, true, true, true, true, false] rfl rfl (by kernel_rfl) (fun _ _ _ h => h) (Or.inl ⟨by rfl, ?_⟩) hHeld ?_ ?_
          rotate_left
          · rintro w' ⟨s0, s1, s2⟩
            go_simp
            with_reducible rfl
          rotate_left
          · simp only [Act.put, List.setIfInBounds_toArray, List.set_cons_zero, List.set_cons_succ, i64_w, i32_w]
            rfl
          refine last_ (i := 6) (N := none) #[true, true, true, true, true, true, true] rfl rfl (by kernel_rfl) (by decide) (fun K hK => ?_)
          refine skip_ (w1 := ?_) (by rfl) rfl ?_ ?_
          rotate_left
          · go_simp
            rfl
          refine hK.out _ _ ?_
          clear hK K
          refine done_ (by kernel_rfl) ?_

          clear g0 g1 k0' hput happ a0 af b0 b1 e0 hlen
          go_wp2_with fail
          refine HACT.out.mono ?_
          rintro e w8 ⟨rfl, hA, hB⟩
          have HA8 := Aside0.mk hA
          have HB8 := Aside0.mk (HB7.out.trans hB)
          clear hA hB
          go_wp2_with fail
          go_ret
          exact ⟨by rw [HO.out]; rfl, by rw [HO.out]; exact store_shut HA8.out, HB8.out⟩
        · go_wp2_with (refine wpList_append_run _ rfl _ _ 23 23 rfl rfl rfl happ ?_)
          refine start_ (n := 7) (S := fun w' => w'.cell? ⟨p, 0, none⟩ = some (.map (some mb3)) ∧ w'.cell? ⟨b, 0, none⟩ = some (.slice A1 (x.f1.length + ys.length) c1) ∧ w'.cell? ⟨b, 1, none⟩ = some (.int .i64 x.f2)) (ds := [6]) #[false, false, false, false, false, false, false] (by kernel_rfl) rfl rfl ⟨k0', g0, g1⟩ (fun hHeld => ?_)
          refine pure_ (i := 0) (N := some 59) (v := ?_) (a' := ?_) #[true, false, false, false, false, false, false] rfl rfl (by kernel_rfl) (fun _ _ _ h => h) (Or.inl ⟨by rfl, ?_⟩) ?_ ?_
          rotate_left
          · intro w'
            go_simp
            with_reducible rfl
          rotate_left
          · simp only [Act.put, List.setIfInBounds_toArray, List.set_cons_zero, List.set_cons_succ, i64_w, i32_w]
            rfl
          refine pure_ (i := 1) (N := some 60) (v := ?_) (a' := ?_) #[true, true, false, false, false, false, false] rfl rfl (by kernel_rfl) (fun _ _ _ h => h) (Or.inl ⟨by rfl, ?_⟩) ?_ ?_
          rotate_left
          · intro w'
            go_simp
            with_reducible rfl
          rotate_left
          · simp only [Act.put, List.setIfInBounds_toArray, List.set_cons_zero, List.set_cons_succ, i64_w, i32_w]
            rfl
          refine pure_ (i := 2) (N := some 61) (v := ?_) (a' := ?_) #[true, true, true, false, false, false, false] rfl rfl (by kernel_rfl) (fun _ _ _ h => h) (Or.inl ⟨by rfl, ?_⟩) ?_ ?_
          rotate_left
          · intro w'
            go_simp
            with_reducible rfl
          rotate_left
          · simp only [Act.put, List.setIfInBounds_toArray, List.set_cons_zero, List.set_cons_succ, i64_w, i32_w]
            rfl
          refine pure_ (i := 4) (N := some 63) (v := ?_) (a' := ?_) #[true, true, true, false, true, false, false] rfl rfl (by kernel_rfl) (fun _ _ _ h => h) (Or.inl ⟨by rfl, ?_⟩) ?_ ?_
          rotate_left
          · intro w'
            go_simp
            with_reducible rfl
          rotate_left
          · simp only [Act.put, List.setIfInBounds_toArray, List.set_cons_zero, List.set_cons_succ, i64_w, i32_w]
            rfl
          refine take_ (i := 3) (N := some 62) (v := ?_) (a' := ?_) #[true, true, true, true, true, false, false] rfl rfl (by kernel_rfl) (fun _ _ _ h => h) (Or.inl ⟨by rfl, ?_⟩) hHeld ?_ ?_
          rotate_left
          · rintro w' ⟨s0, s1, s2⟩
            go_simp
            with_reducible rfl
          rotate_left
          · simp only [Act.put, List.setIfInBounds_toArray, List.set_cons_zero, List.set_cons_succ, i64_w, i32_w]
            rfl
          refine take_ (i := 5) (N := some 64) (v := ?_) (a' := ?_) #[true, true, true, true, true, true, false] rfl rfl (by kernel_rfl) (fun _ _ _ h => h) (Or.inl ⟨by rfl, ?_⟩) hHeld ?_ ?_
          rotate_left
          · rintro w' ⟨s0, s1, s2⟩
            go_simp
            with_reducible rfl
          rotate_left
          · simp only [Act.put, List.setIfInBounds_toArray, List.set_cons_zero, List.set_cons_succ, i64_w, i32_w]
            rfl
          refine last_ (i := 6) (N := none) #[true, true, true, true, true, true, true] rfl rfl (by kernel_rfl) (by decide) (fun K hK => ?_)
          refine skip_ (w1 := ?_) (by rfl) rfl ?_ ?_
          rotate_left
          · go_simp
            rfl
          refine hK.out _ _ ?_
          clear hK K
          refine done_ (by kernel_rfl) ?_

          clear g0 g1 k0' hput happ a0 af b0 b1 e0 hlen
          go_wp2_with fail
          refine HACT.out.mono ?_
          rintro e w8 ⟨rfl, hA, hB⟩
          have HA8 := Aside0.mk hA
          have HB8 := Aside0.mk (HB7.out.trans hB)
          clear hA hB
          go_wp2_with fail
          go_ret
          exact ⟨by rw [HO.out]; rfl, by rw [HO.out]; exact store_shut HA8.out, HB8.out⟩
end Go.Proofs.Ytibnakpefjjoiaa.Fs
