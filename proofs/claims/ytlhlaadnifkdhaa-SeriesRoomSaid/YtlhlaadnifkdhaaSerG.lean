/- Expire: walked. No law is proved here. -/
import Derived.Test.YtlhlaadnifkdhaaSerF
namespace Go.Proofs.Ytlhlaadnifkdhaa.Sr
open Go.RowKit Go.Proofs.YtlhlaadnifkdhaaW.PrintWords Go.Proofs.YtlhlaadnifkdhaaW.PrintLast Go.Proofs.YtlhlaadnifkdhaaW.PrintMore Go.Proofs.Ytlhlaadnifkdhaa.Q Go.Proofs.Ytlhlaadnifkdhaa.Own Go.Proofs.Ytlhlaadnifkdhaa.Nmd
set_option linter.unusedVariables false
set_option linter.unusedSimpArgs false
attribute [local go_sem ↓] Go.wp_at_zero Go.wp_at_succ

/-- A store of series, its map under way. -/
def loopT (p mb r n : Nat) (es : List SE) (left : Lit → Bool) (cnt : Nat) : Th where
  on w F := F p ∧ F mb ∧ F r ∧ mb ≠ p ∧ r ≠ p ∧ w.heap[p]? = some (.cells #[.map (some mb)] 58 (0, 0)) ∧ (∃ D, w.ranges Try.prog 9 RV mb r n D left cnt ∧ Tells keyE valE D es) ∧ Rise keyE es
  loc := by
    rintro w w' F ⟨h0, h1, h2, h3, h4, h5, ⟨D, ⟨es, clock, since, seen, c0, hb, a1, a2, a3, hr, rest⟩, h6⟩, h7⟩ hm
    exact ⟨h0, h1, h2, h3, h4, (hm p h0).trans h5, ⟨D, ⟨es, clock, since, seen, c0, (hm mb h1).trans hb, a1, a2, a3, (hm r h2).trans hr, rest⟩, h6⟩, h7⟩
section
variable {B : Nat} {w : World} {p mb r n cnt : Nat} {es : List SE} {left : Lit → Bool} {Ts : List Th}
theorem loop_start (h : Has B w (mapT p es :: Ts)) : ∃ mb n D, w.cell? ⟨p, 0, none⟩ = some (.map (some mb)) ∧ w.ownsMap Try.prog 9 RV mb n D ∧ Tells keyE valE D es ∧ ∀ w', w'.ranges Try.prog 9 RV mb w.heap.size n D (Go.Maps.has D) (Go.Maps.size D) → w.grownBy w' none → w'.heap.size = w.heap.size + 1 →
    Has B w' (loopT p mb w.heap.size n es (Go.Maps.has D) (Go.Maps.size D) :: Ts) ∧ Below B w w' := by
  obtain ⟨F, ⟨hF, mb, D, h1, h2, h3, h4, h5, h6⟩, hFb, put⟩ := h.head
  refine ⟨mb, _, D, by rw [blk_cell h3]; rfl, h4, h5, fun w' hr hg hs => ?_⟩
  have hfar : ∀ k, F k → w'.heap[k]? = w.heap[k]? := fun k hk => hg.block k (hFb k hk).2 (fun e => by cases e)
  have hp := (hFb p hF).2
  exact put w' (fun k => F k ∨ k = w.heap.size) (loopT p mb w.heap.size _ es (Go.Maps.has D) (Go.Maps.size D)) ((KeepF.refl F w).grown hg fun k e => by cases e)
    ⟨.inl hF, .inl h1, .inr rfl, h2, by omega, (hfar p hF).trans h3, ⟨D, hr, h5⟩, h6⟩ (fun k hk => by
      rcases hk with hk | rfl
      · exact ⟨.inl hk, by have := (hFb k hk).2; omega⟩
      · exact ⟨.inr (Nat.le_refl _), by omega⟩)
theorem loop_cell (h : Has B w Ts) (hm : loopT p mb r n es left cnt ∈ Ts) : w.cell? ⟨p, 0, none⟩ = some (.map (some mb)) ∧ (∃ D, w.ranges Try.prog 9 RV mb r n D left cnt) ∧ Rise keyE es := by
  obtain ⟨F, ⟨h0, h1, h2, h3, h4, h5, ⟨D, h6, h7⟩, h8⟩, -⟩ := h.mem hm
  exact ⟨by rw [blk_cell h5]; rfl, ⟨D, h6⟩, h8⟩
theorem loop_step (h : Has B w (loopT p mb r n es left cnt :: Ts)) : ∃ D, w.ranges Try.prog 9 RV mb r n D left cnt ∧ Tells keyE valE D es ∧ ∀ w' left' cnt', w'.ranges Try.prog 9 RV mb r n D left' cnt' → w.grownBy w' (some r) →
    Has B w' (loopT p mb r n es left' cnt' :: Ts) ∧ Below B w w' := by
  obtain ⟨F, ⟨h0, h1, h2, h3, h4, h5, ⟨D, h6, h7⟩, h8⟩, hFb, put⟩ := h.head
  refine ⟨D, h6, h7, fun w' left' cnt' hr hg => ?_⟩
  have hp : w'.heap[p]? = w.heap[p]? := hg.block p (hFb p h0).2 (fun e => by injection e with e; exact h4 e.symm)
  exact put w' F (loopT p mb r n es left' cnt') ((KeepF.refl F w).grown hg fun k e => by injection e with e; subst e; exact .inl h2)
    ⟨h0, h1, h2, h3, h4, hp.trans h5, ⟨D, hr, h7⟩, h8⟩ (fun k hk => ⟨.inl hk, Nat.lt_of_lt_of_le (hFb k hk).2 hg.size⟩)
theorem loop_del (h : Has B w (loopT p mb r n es left cnt :: Ts)) (m : List UInt8) : ∃ D, w.ranges Try.prog 9 RV mb r n D left cnt ∧ ∀ w' left' cnt', w'.ranges Try.prog 9 RV mb r n (D.del (.string m)) left' cnt' → w.mapTurned w' mb →
    Has B w' (loopT p mb r n (cutF keyE es m) left' cnt' :: Ts) ∧ Below B w w' := by
  obtain ⟨F, ⟨h0, h1, h2, h3, h4, h5, ⟨D, h6, h7⟩, h8⟩, hFb, put⟩ := h.head
  refine ⟨D, h6, fun w' left' cnt' hr ht => ?_⟩
  have hg := ht.grown
  have hp : w'.heap[p]? = w.heap[p]? := hg.block p (hFb p h0).2 (fun e => by injection e with e; exact h3 e.symm)
  exact put w' F (loopT p mb r n (cutF keyE es m) left' cnt') ((KeepF.refl F w).grown hg fun k e => by injection e with e; subst e; exact .inl h1)
    ⟨h0, h1, h2, h3, h4, hp.trans h5, ⟨_, hr, tells_del h7 (h6.owns.tidy lawK) h8 m⟩, cut_rise h8 _⟩ (fun k hk => ⟨.inl hk, Nat.lt_of_lt_of_le (hFb k hk).2 hg.size⟩)
theorem loop_end (h : Has B w (loopT p mb r n es left cnt :: Ts)) : Has B w (mapT p es :: Ts) := by
  obtain ⟨F, ⟨h0, h1, h2, h3, h4, h5, ⟨D, h6, h7⟩, h8⟩, hFb, put⟩ := h.head
  exact (put w F (mapT p es) (KeepF.refl F w) ⟨h0, mb, D, h1, h3, h5, by rw [← h7.size]; exact own_tight h6.owns, h7, h8⟩ (fun k hk => ⟨.inl hk, (hFb k hk).2⟩)).1
end
end Go.Proofs.Ytlhlaadnifkdhaa.Sr
