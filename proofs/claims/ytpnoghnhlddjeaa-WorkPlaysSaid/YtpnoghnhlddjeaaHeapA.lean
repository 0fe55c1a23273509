/- The heap's row of tasks behind a pointer: its small methods, walked. No law is proved here. -/
import Derived.Test.YtpnoghnhlddjeaaQ5
import Derived.Test.YtpnoghnhlddjeaaOwn
import Derived.Deep.RegionHeld3
import Derived.Deep.DrawnRows
import Derived.BigRegion
import Derived.BigQuiet
namespace Go.Proofs.Ytpnoghnhlddjeaa.Hp
open Go.RowKit Go.Proofs.YtpnoghnhlddjeaaW.PrintWords Go.Proofs.Ytpnoghnhlddjeaa.Q Go.Proofs.Ytpnoghnhlddjeaa.Own
set_option linter.unusedVariables false
set_option linter.unusedSimpArgs false
attribute [local go_sem ↓] Go.wp_at_zero Go.wp_at_succ

/-- A row of tasks behind a pointer. -/
def rowH (p : Nat) (l : List S31) : Th where
  on w F := F p ∧ ∃ v, w.heap[p]? = some (.cells #[v, .bool true] 77 (0, 0)) ∧ Kd.R k31 31 w 0 (fun k => F k ∧ k ≠ p) v l
  loc := by
    rintro w w' F ⟨h0, v, h1, h2⟩ hm
    exact ⟨h0, v, (hm p h0).trans h1, Kd.R_move h2 fun k hk => hm k hk.1⟩
abbrev ptr (p : Nat) : Value := .pointer (some ⟨p, 0, none⟩)
def Done (B : Nat) (w : World) (Ts : List Th) (v : Value) (e : Ending) (w' : World) : Prop := e = .returned v ∧ Has B w' Ts ∧ Below B w w'
theorem below_of {B : Nat} {w w' : World} (hB : B ≤ w.heap.size) (h : Below w.heap.size w w') : Below B w w' := h.mono hB

set_option maxHeartbeats 1000000 in
theorem many_calls {B : Nat} {w : World} {Ts : List Th} {p : Nat} {l : List S31} (h : Has B w (rowH p l :: Ts)) :
    Calls Try.prog 43 #[ptr p] w fun e w' => e = .returned (.int .i64 l.length) ∧ w = w' := by
  obtain ⟨F, ⟨hF, v, hb, hr⟩, _⟩ := h.head
  obtain ⟨A, c, rfl, hc, hC⟩ := Kd.R_reads hr
  have h0 : w.cell? ⟨p, 0, none⟩ = some (.slice A l.length c) := by rw [blk_cell hb]; rfl
  clear hb hr hC
  go_enter Try.func43, Try.ntmps43
  go_wp2
  go_ret
  exact ⟨rfl, rfl⟩
def swapL (l : List S31) (i k : Int) : List S31 := (l.set i.toNat (rd_T31 l k)).set k.toNat (rd_T31 l i)
theorem frozen_row {α : Type} {d : Kd α} {e : Nat} {w : World} {base : Nat} {ok : Nat → Prop} {g n c : Nat} {xs : List α} (h : d.R e w base ok (.slice (some ⟨g, 0, none⟩) n c) xs) (j : Nat) : w.frozen? ⟨g, j, none⟩ = false := by
  obtain ⟨_, inner, ho, hr⟩ := h
  obtain ⟨cells, hc⟩ := own_typed ho g (by simp [Value.ownBlock])
  exact blk_frozen hc _
theorem row_pos {α : Type} {d : Kd α} {e : Nat} {w : World} {base : Nat} {ok : Nat → Prop} {v : Value} {xs : List α} (h : d.R e w base ok v xs) (hp : 0 < xs.length) : ∃ g c, v = .slice (some ⟨g, 0, none⟩) xs.length c ∧ xs.length ≤ c := by
  obtain ⟨_, inner, ho, hr⟩ := h
  rcases ho.2 with ⟨_, h0⟩ | ⟨g, cap, cur, hv, _, _, hc, _⟩
  · omega
  · exact ⟨g, cap, hv, hc⟩
theorem row_set {w : World} {base : Nat} {ok : Nat → Prop} {g n c : Nat} {l : List S31} (h : Kd.R k31 31 w base ok (.slice (some ⟨g, 0, none⟩) n c) l) (i : Int) (h0 : 0 ≤ i) (h1 : i < n) (x : S31) :
    Kd.R k31 31 ((w.setCell ⟨g, i.toNat * 2, none⟩ (.int .u32 x.f0)).setCell ⟨g, i.toNat * 2 + 1, none⟩ (.int .i64 x.f1)) base ok (.slice (some ⟨g, 0, none⟩) n c) (l.set i.toNat x) := by
  obtain ⟨cs, hcl, _, hcc, _⟩ := Kd.R_elem h z31 i h0 h1
  have := (Kd.R_seg (okp := fun _ => False) (seg := [.int .u32 x.f0, .int .i64 x.f1]) (j := 0) h i h0 h1 hcl hcc (Nat.le_refl 2) (x' := x) (by
    have e : cs.take 0 ++ [Value.int .u32 x.f0, Value.int .i64 x.f1] ++ cs.drop (0 + [Value.int .u32 x.f0, Value.int .i64 x.f1].length) = [Value.int .u32 x.f0, Value.int .i64 x.f1] := by
      rw [List.take_zero, List.nil_append, List.drop_of_length_le (by rw [hcl]; exact Nat.le_refl 2), List.append_nil]
    rw [e]
    exact k31_mkM _ _ _ x) (fun _ f => f.elim)).1
  exact this
set_option maxHeartbeats 4000000 in
set_option maxRecDepth 100000 in
theorem swap_calls {B : Nat} {w : World} {Ts : List Th} {p : Nat} {l : List S31} (h : Has B w (rowH p l :: Ts)) (i k : Int) (hi0 : 0 ≤ i) (hi1 : i < l.length) (hk0 : 0 ≤ k) (hk1 : k < l.length) (hne : i ≠ k) :
    Calls Try.prog 58 #[ptr p, .int .i64 i, .int .i64 k] w (Done B w (rowH p (swapL l i k) :: Ts) (.tuple #[])) := by
  obtain ⟨F, ⟨hF, v, hb, hr⟩, hFb, put⟩ := h.head
  obtain ⟨g, c, rfl, hc⟩ := row_pos hr (by omega)
  have h0 : w.cell? ⟨p, 0, none⟩ = some (.slice (some ⟨g, 0, none⟩) l.length c) := by rw [blk_cell hb]; rfl
  obtain ⟨_, _, hC⟩ := Kd.R_reads' hr
  obtain ⟨ad, e0, hi2, hi3⟩ := at_T31 hC i hi0 hi1
  cases e0
  obtain ⟨ad, e0, hk2, hk3⟩ := at_T31 hC k hk0 hk1
  cases e0
  rw [add_plain] at hi2 hi3 hk2 hk3
  dsimp only at hi3 hk3
  have f1 := frozen_row hr (i.toNat * 2)
  have f2 := frozen_row hr (i.toNat * 2 + 1)
  have f3 := frozen_row hr (k.toNat * 2)
  have f4 := frozen_row hr (k.toNat * 2 + 1)
  have d1 : decide (0 ≤ i) = true := decide_eq_true hi0
  have d2 : decide (i < (l.length : Int)) = true := decide_eq_true hi1
  have d3 : decide (0 ≤ k) = true := decide_eq_true hk0
  have d4 : decide (k < (l.length : Int)) = true := decide_eq_true hk1
  have hu29 := Try.underlying31
  have PUT := Aside0.mk put
  have HR := Aside0.mk hr
  have HB := Aside0.mk hb
  have HFB := Aside0.mk hFb
  clear put hr hb hC h hFb
  go_enter Try.func58, Try.ntmps58
  go_wp2
  go_region
  go_end0
  have hgF : F g ∧ g ≠ p := HR.out.1 g (by simp [Value.ownBlock])
  refine ⟨rfl, PUT.out _ F (rowH p (swapL l i k)) ?_ ⟨hF, .slice (some ⟨g, 0, none⟩) l.length c, ?_, ?_⟩ (fun q hq => ⟨.inl hq, ?_⟩)⟩
  · exact KeepF.drew (KeepF.setCell (KeepF.setCell (KeepF.setCell (KeepF.setCell (KeepF.refl _ _) (.inl hgF.1) _) (.inl hgF.1) _) (.inl hgF.1) _) (.inl hgF.1) _)
  · have e : ∀ W : World, (∀ (a : Addr) (x : Value), a.block ≠ p → (W.setCell a x).heap[p]? = W.heap[p]?) := fun W a x ha => Below.heap_setCell W a x p (Ne.symm ha)
    rw [show ∀ W : World, W.drew.heap[p]? = W.heap[p]? from fun _ => rfl, e _ _ _ hgF.2, e _ _ _ hgF.2, e _ _ _ hgF.2, e _ _ _ hgF.2]
    exact HB.out
  · have r1 := row_set HR.out i hi0 (by omega) (rd_T31 l k)
    have r2 := row_set r1 k hk0 (by omega) (rd_T31 l i)
    have r3 := Kd.R_drew r2
    unfold swapL
    exact r3
  · exact Nat.lt_of_lt_of_le (HFB.out q hq).2 (by simp)
theorem set_self (l : List S31) (i : Int) (h0 : 0 ≤ i) (h1 : i < l.length) : l.set i.toNat (rd_T31 l i) = l := by
  have h2 : i.toNat < l.length := by omega
  unfold rd_T31
  rw [List.getD_eq_getElem?_getD, List.getElem?_eq_getElem h2]
  exact List.set_getElem_self h2
set_option maxHeartbeats 4000000 in
set_option maxRecDepth 100000 in
theorem swap_same {B : Nat} {w : World} {Ts : List Th} {p : Nat} {l : List S31} (h : Has B w (rowH p l :: Ts)) (i : Int) (hi0 : 0 ≤ i) (hi1 : i < l.length) :
    Calls Try.prog 58 #[ptr p, .int .i64 i, .int .i64 i] w (Done B w (rowH p l :: Ts) (.tuple #[])) := by
  obtain ⟨F, ⟨hF, v, hb, hr⟩, hFb, put⟩ := h.head
  obtain ⟨g, c, rfl, hc⟩ := row_pos hr (by omega)
  have h0 : w.cell? ⟨p, 0, none⟩ = some (.slice (some ⟨g, 0, none⟩) l.length c) := by rw [blk_cell hb]; rfl
  obtain ⟨_, _, hC⟩ := Kd.R_reads' hr
  obtain ⟨ad, e0, hi2, hi3⟩ := at_T31 hC i hi0 hi1
  cases e0
  rw [add_plain] at hi2 hi3
  dsimp only at hi3
  have f1 := frozen_row hr (i.toNat * 2)
  have f2 := frozen_row hr (i.toNat * 2 + 1)
  have d1 : decide (0 ≤ i) = true := decide_eq_true hi0
  have d2 : decide (i < (l.length : Int)) = true := decide_eq_true hi1
  have hu29 := Try.underlying31
  have PUT := Aside0.mk put
  have HR := Aside0.mk hr
  have HB := Aside0.mk hb
  have HFB := Aside0.mk hFb
  clear put hr hb hC h hFb
  go_enter Try.func58, Try.ntmps58
  go_wp2
  go_region
  go_end0
  have hgF : F g ∧ g ≠ p := HR.out.1 g (by simp [Value.ownBlock])
  refine ⟨rfl, PUT.out _ F (rowH p l) ?_ ⟨hF, .slice (some ⟨g, 0, none⟩) l.length c, ?_, ?_⟩ (fun q hq => ⟨.inl hq, ?_⟩)⟩
  · exact KeepF.drew (KeepF.setCell (KeepF.setCell (KeepF.setCell (KeepF.setCell (KeepF.refl _ _) (.inl hgF.1) _) (.inl hgF.1) _) (.inl hgF.1) _) (.inl hgF.1) _)
  · have e : ∀ W : World, (∀ (a : Addr) (x : Value), a.block ≠ p → (W.setCell a x).heap[p]? = W.heap[p]?) := fun W a x ha => Below.heap_setCell W a x p (Ne.symm ha)
    rw [show ∀ W : World, W.drew.heap[p]? = W.heap[p]? from fun _ => rfl, e _ _ _ hgF.2, e _ _ _ hgF.2, e _ _ _ hgF.2, e _ _ _ hgF.2]
    exact HB.out
  · have r1 := row_set HR.out i hi0 (by omega) (rd_T31 l i)
    have r2 := row_set r1 i hi0 (by omega) (rd_T31 l i)
    have r3 := Kd.R_drew r2
    rw [List.set_set, set_self l i hi0 hi1] at r3
    exact r3
  · exact Nat.lt_of_lt_of_le (HFB.out q hq).2 (by simp)
end Go.Proofs.Ytpnoghnhlddjeaa.Hp
