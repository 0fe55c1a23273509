/- A heap is made; all its tasks are told. No law is proved here. -/
import Derived.Test.YtpnoghnhlddjeaaHeapG
namespace Go.Proofs.Ytpnoghnhlddjeaa.Hp
open Go.RowKit Go.Proofs.YtpnoghnhlddjeaaW.PrintWords Go.Proofs.YtpnoghnhlddjeaaW.PrintLast Go.Proofs.YtpnoghnhlddjeaaW.PrintMore Go.Proofs.Ytpnoghnhlddjeaa.Q Go.Proofs.Ytpnoghnhlddjeaa.Own
set_option linter.unusedVariables false
set_option linter.unusedSimpArgs false
attribute [local go_sem ↓] Go.wp_at_zero Go.wp_at_succ

def newS (l : List S31) : List S31 := l.foldl pushS []
theorem fold_length : ∀ (l s : List S31), (l.foldl pushS s).length ≤ s.length + l.length
  | [], s => Nat.le_refl _
  | x :: l, s => by
    have := fold_length l (pushS s x)
    have := push_length s x
    simp only [List.foldl_cons, List.length_cons]
    omega
theorem fold_good : ∀ (l s : List S31), GoodS s → (∀ x ∈ l, GoodT x) → s.length + l.length ≤ 1000000 → GoodS (l.foldl pushS s)
  | [], s, h, _, _ => h
  | x :: l, s, h, hl, hm => by
    have := push_length s x
    have hlen : s.length + (l.length + 1) ≤ 1000000 := hm
    exact fold_good l (pushS s x) (good_push h (hl x List.mem_cons_self) (by omega)) (fun y hy => hl y (List.mem_cons_of_mem _ hy)) (by omega)
theorem take_fold (l : List S31) (k : Nat) (h : k < l.length) : (l.take (k + 1)).foldl pushS [] = pushS ((l.take k).foldl pushS []) (rd_T31 l k) := by
  rw [List.take_succ_eq_append_getElem h, List.foldl_append, rd_nat l h]
  rfl
/-- What is made in new blocks stands beside what was there. -/
theorem has_new {B : Nat} {w w' : World} {T : Th} {Ts : List Th} (h : Has B w Ts) (hb : Below w.heap.size w w') (hT : Has w.heap.size w' [T]) : Has B w' (T :: Ts) := by
  obtain ⟨_, F, h1, h2, _⟩ := hT
  exact h.new hb h1 fun k hk => (h2 k hk).2
def NewPost (w : World) (s : List S31) (e : Ending) (w' : World) : Prop := ∃ p, e = .returned (ptr p) ∧ Has w.heap.size w' [heapT p s] ∧ Below w.heap.size w w'
set_option maxHeartbeats 4000000 in
set_option maxRecDepth 100000 in
theorem new_calls {A : Option Addr} {c : Nat} {l : List S31} {w : World} (hC : Kd.C k31 w A l.length l) (hg : ∀ x ∈ l, GoodT x) (hm : l.length ≤ 1000000) :
    Calls Try.prog 26 #[.slice A l.length c] w (NewPost w (newS l)) := by
  have HC := Aside0.mk hC
  have HG := Aside0.mk hg
  have hu29 := Try.underlying31
  have h0 : Has w.heap.size (w.alloc (.cells #[.slice none 0 0, .bool true] 77)) [heapT w.heap.size []] := by
    have h1 := (Has.nil w).box #[.slice none 0 0, .bool true] 77
    obtain ⟨a, F, ⟨b1, b2⟩, c, d⟩ := h1
    exact ⟨a, F, ⟨[], ⟨b1, .slice none 0 0, b2, Kd.R_nil _ _ _ _ _⟩, fun j _ h => absurd h (Nat.not_lt_zero _), List.Perm.refl _, good_nil⟩, c, d⟩
  have H0 := Aside0.mk h0
  have HB0 : Aside0 (Below w.heap.size w (w.alloc (.cells #[.slice none 0 0, .bool true] 77))) := ⟨(Below.refl _ w).alloc (Nat.le_refl _) _⟩
  clear hC hg h0
  go_enter Try.func26, Try.ntmps26
  go_wp2
  go_loopw [11] (fun k wr => ∃ kn : Int, k = .int .i64 kn ∧ 0 ≤ kn ∧ kn ≤ l.length ∧ Aside0 (Has w.heap.size wr [heapT w.heap.size ((l.take kn.toNat).foldl pushS [])]) ∧ Aside0 (Below w.heap.size w wr)) (fun k _ => l.length - (intOf k).toNat)
  case atStart => exact ⟨0, rfl, by omega, by omega, H0, HB0⟩
  case round =>
    clear H0 HB0
    obtain ⟨kn, rfl, hk0, hk1, HA, HB⟩ := hrel
    by_cases hlt : kn < l.length
    · obtain ⟨ad, rfl, hi2, hi3⟩ := at_T31 HC.out kn hk0 hlt
      replace hi2 := pw_cell_below HB.out hi2
      replace hi3 := pw_cell_below HB.out hi3
      have d1 : decide (0 ≤ kn) = true := decide_eq_true hk0
      have d2 : decide (kn < (l.length : Int)) = true := decide_eq_true hlt
      obtain ⟨x, hx⟩ : ∃ x, x = rd_T31 l kn := ⟨_, rfl⟩
      rw [← hx] at hi2 hi3
      have hf := fold_length (l.take kn.toNat) []
      rw [List.length_take, List.length_nil] at hf
      have hxg : GoodT x := by rw [hx, show kn = ((kn.toNat : Nat) : Int) by omega]; exact HG.out _ (rd_mem (by omega))
      have HP := Aside0.mk (push_calls (HA.out.alloc (.cells #[.int .u32 x.f0, .int .i64 x.f1] 31)) x hxg (by omega))
      have HX := Aside0.mk hx
      clear hx hf hxg
      go_wp2_with (refine HP.out.mono ?_; rintro e w2 ⟨rfl, hA2, hB2⟩)
      go_roundw
      case rel => exact ⟨kn + 1, rfl, by omega, by omega, ⟨by rw [show (kn + 1).toNat = kn.toNat + 1 by omega, take_fold l kn.toNat (by omega), show ((kn.toNat : Nat) : Int) = kn by omega, ← HX.out]; exact hA2⟩, ⟨(HB.out.alloc HB.out.size _).trans hB2⟩⟩
      case measure => simp [intOf]; omega
    · have d2 : decide (kn < (l.length : Int)) = false := decide_eq_false hlt
      go_wp2
      go_ret
      exact ⟨w.heap.size, rfl, by have := HA.out; rwa [List.take_of_length_le (by omega)] at this, HB.out⟩
end Go.Proofs.Ytpnoghnhlddjeaa.Hp
