/- A store of files: what is done with an open file: walked. No law is proved here. -/
import Derived.Test.YtibnakpefjjoiaaFileD
import Derived.Test.YtibnakpefjjoiaaWMore
namespace Go.Proofs.Ytibnakpefjjoiaa.Fs
open Go.RowKit Go.Proofs.YtibnakpefjjoiaaW.PrintWords Go.Proofs.YtibnakpefjjoiaaW.PrintLast Go.Proofs.YtibnakpefjjoiaaW.PrintMore Go.Proofs.Ytibnakpefjjoiaa.Q Go.Proofs.Ytibnakpefjjoiaa.Own
set_option linter.unusedVariables false
set_option linter.unusedSimpArgs false
attribute [local go_sem ↓] Go.wp_at_zero Go.wp_at_succ

theorem box_at {B : Nat} {w : World} {T : Th} {Ts : List Th} {b : Nat} {cs : Array Value} {t : TypeId} (h : Has B w (T :: boxT b cs t :: Ts)) : (∀ i, w.cell? ⟨b, i, none⟩ = cs[i]?) ∧ (∀ i, w.frozen? ⟨b, i, none⟩ = false) := by
  obtain ⟨q1, q2, -, -⟩ := Has.box_cell h (b := b) (cs := cs) (t := t) (by simp)
  exact ⟨q1, q2⟩
set_option maxHeartbeats 2000000 in
set_option maxRecDepth 100000 in
theorem clo_sync {B : Nat} {w : World} {p b c1 : Nat} {left acts : Int} {L : List SF} {x : SF} {A : Option Addr} {c : Nat} {Ts : List Th} (h : Has B w (storeT p left acts L (some ⟨b, x, A, c⟩) :: boxT c1 #[ptr p] 24 :: Ts)) (ha : 0 ≤ acts) (hb : acts < 1000000) (hw : -1 ≤ left) (hw2 : left ≤ 9223372036854775807) :
    Calls Try.prog 41 #[ptr b, ptr c1] w (CloPost B w p b (leftF left) (acts + 1) L ⟨x.f0, x.f1, (x.f1.length : Int)⟩ (boxT c1 #[ptr p] 24 :: Ts) 0) := by
  obtain ⟨b0, b1, bf, -, -⟩ := open_cells h
  obtain ⟨hset, -⟩ := open_set h
  obtain ⟨hA, hB⟩ := hset (x.f1.length : Int)
  dsimp only at b0 b1 bf hA hB
  have f1 := bf 1
  obtain ⟨qa, -⟩ := box_at hA
  have q0 : (w.setCell ⟨b, 1, none⟩ (.int .i64 (x.f1.length : Int))).cell? ⟨c1, 0, none⟩ = some (ptr p) := qa 0
  have HA := Aside0.mk hA
  have HB := Aside0.mk hB
  have HACT := Aside0.mk (act_calls hA ha hb hw hw2)
  clear h hset hA hB qa bf ha hb hw hw2
  go_enter Try.func41, Try.ntmps41
  go_wp2_with fail
  refine HACT.out.mono ?_
  rintro e w2 ⟨rfl, hA, hB⟩
  have HA2 := Aside0.mk hA
  have HB2 := Aside0.mk (HB.out.trans hB)
  clear hA hB
  go_wp2_with fail
  go_ret
  exact ⟨A, c, rfl, HA2.out, HB2.out⟩
set_option maxHeartbeats 2000000 in
set_option maxRecDepth 100000 in
theorem clo_size {B : Nat} {w : World} {p b c1 : Nat} {left acts y : Int} {L : List SF} {x : SF} {A : Option Addr} {c : Nat} {Ts : List Th} (h : Has B w (storeT p left acts L (some ⟨b, x, A, c⟩) :: boxT c1 #[.int .i64 y] 3 :: Ts)) :
    Calls Try.prog 54 #[ptr b, ptr c1] w (CloPost B w p b left acts L x (boxT c1 #[.int .i64 (x.f1.length : Int)] 3 :: Ts) 0) := by
  obtain ⟨b0, b1, bf, -, -⟩ := open_cells h
  obtain ⟨qa, qf⟩ := box_at h
  have q0 : w.cell? ⟨c1, 0, none⟩ = some (.int .i64 y) := qa 0
  have f0 := qf 0
  obtain ⟨hA, hB⟩ := h.swap.box_set 0 (.int .i64 (x.f1.length : Int))
  have HA := Aside0.mk hA.swap
  have HB := Aside0.mk hB
  dsimp only at b0 b1
  clear h hA hB qa qf bf
  go_enter Try.func54, Try.ntmps54
  go_wp2_with fail
  go_ret
  exact ⟨A, c, rfl, HA.out, HB.out⟩
set_option maxHeartbeats 2000000 in
set_option maxRecDepth 100000 in
theorem clo_synced {B : Nat} {w : World} {p b c1 : Nat} {left acts y : Int} {L : List SF} {x : SF} {A : Option Addr} {c : Nat} {Ts : List Th} (h : Has B w (storeT p left acts L (some ⟨b, x, A, c⟩) :: boxT c1 #[.int .i64 y] 3 :: Ts)) :
    Calls Try.prog 43 #[ptr b, ptr c1] w (CloPost B w p b left acts L x (boxT c1 #[.int .i64 x.f2] 3 :: Ts) 0) := by
  obtain ⟨b0, b1, bf, -, -⟩ := open_cells h
  obtain ⟨qa, qf⟩ := box_at h
  have q0 : w.cell? ⟨c1, 0, none⟩ = some (.int .i64 y) := qa 0
  have f0 := qf 0
  obtain ⟨hA, hB⟩ := h.swap.box_set 0 (.int .i64 x.f2)
  have HA := Aside0.mk hA.swap
  have HB := Aside0.mk hB
  dsimp only at b0 b1
  clear h hA hB qa qf bf
  go_enter Try.func43, Try.ntmps43
  go_wp2_with fail
  go_ret
  exact ⟨A, c, rfl, HA.out, HB.out⟩
end Go.Proofs.Ytibnakpefjjoiaa.Fs
