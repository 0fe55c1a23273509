/- Some of the chapter's rows: walked. No law is proved here. -/
import Derived.Test.YtibnakpefjjoiaaFileS
import Derived.Test.YtibnakpefjjoiaaFileU
namespace Go.Proofs.Ytibnakpefjjoiaa.Fs
open Go.RowKit Go.Proofs.YtibnakpefjjoiaaW.PrintWords Go.Proofs.YtibnakpefjjoiaaW.PrintLast Go.Proofs.YtibnakpefjjoiaaW.PrintMore Go.Proofs.Ytibnakpefjjoiaa.Q Go.Proofs.Ytibnakpefjjoiaa.Own
set_option linter.unusedVariables false
set_option linter.unusedSimpArgs false
attribute [local go_sem ↓] Go.wp_at_zero Go.wp_at_succ

theorem lit_I (w : World) (l : List Int) (hl : l.length ≤ 9223372036854775807) : Kd.C kI (w.alloc (.cells (encs (Value.int .i64) l).toArray 3)) (some ⟨w.heap.size, 0, none⟩) l.length l := by
  have h : Kd.R kI 3 (w.alloc (.cells (encs (Value.int .i64) l).toArray 3)) 0 (fun _ => True) (.slice (some ⟨w.heap.size, 0, none⟩) l.length l.length) l :=
    ⟨fun _ _ => trivial, OwnRow.lit (ps := l) w 0 (inner := encs (Value.int .i64) l) (Kd.reps_scalar l) (Nat.zero_le _) hl⟩
  exact (Kd.R_reads' h).2.2
theorem lit_rowI {B : Nat} {w : World} {Ts : List Th} (h : Has B w Ts) (l : List Int) (hl : l.length ≤ 9223372036854775807) : Has B (w.alloc (.cells (encs (Value.int .i64) l).toArray 3)) (rowT kI 3 (.slice (some ⟨w.heap.size, 0, none⟩) l.length l.length) l :: Ts) :=
  h.row ((Below.refl _ w).alloc (Nat.le_refl _) _) ⟨fun _ _ => trivial, OwnRow.lit (ps := l) w w.heap.size (inner := encs (Value.int .i64) l) (Kd.reps_scalar l) (Nat.le_refl _) hl⟩
def aw1 : Stt := ⟨-1, 1, [⟨nA, [1, 2, 3], 0⟩]⟩
def aw2 : Stt := ⟨-1, 2, [⟨nA, [1, 2, 3], 3⟩]⟩
def aw3 : Stt := ⟨-1, 3, [⟨nA, [1, 2, 3, 4, 5], 3⟩]⟩
def aw4 : Stt := ⟨-1, 4, [⟨nA, [1, 2, 3, 4, 5], 3⟩, ⟨nB, [6], 0⟩]⟩
def aw5 : Stt := ⟨-1, 4, [⟨nA, [1, 2, 3, 4], 4⟩, ⟨nB, [], 0⟩]⟩
theorem aw_1 : appendS ⟨-1, 0, []⟩ nA [1, 2, 3] = (0, aw1) := by rfl
theorem aw_2 : syncS aw1 nA = (0, aw2) := by rfl
theorem aw_3 : appendS aw2 nA [4, 5] = (0, aw3) := by rfl
theorem aw_4 : appendS aw3 nB [6] = (0, aw4) := by rfl
theorem aw_5 : crashS aw4 [1] = aw5 := by rfl
theorem aw_6 : toldE aw4 nA = 0 ∧ (toldX aw4 nA).f1.length = 5 ∧ toldE aw5 nA = 0 ∧ toldE aw5 nB = 0 ∧ (toldX aw5 nA).f1 = [1, 2, 3, 4] ∧ (toldX aw5 nB).f1 = [] := by decide
theorem fine1 : Fine aw1 1 := by have := fine_append fine_new nA [1, 2, 3]; rw [aw_1] at this; exact this
theorem fine2 : Fine aw2 2 := by have := fine_sync fine1 nA; rw [aw_2] at this; exact this
theorem fine3 : Fine aw3 3 := by have := fine_append fine2 nA [4, 5]; rw [aw_3] at this; exact this
theorem fine4 : Fine aw4 4 := by have := fine_append fine3 nB [6]; rw [aw_4] at this; exact this
theorem fine5 : Fine aw5 4 := by have := fine_crash fine4 [1]; rw [aw_5] at this; exact this
def TruePost (w : World) (e : Ending) (w' : World) : Prop := e = .returned (.bool true) ∧ Below w.heap.size w w'
set_option maxHeartbeats 8000000 in
set_option maxRecDepth 100000 in
theorem awake_calls (w : World) : Calls Try.prog 16 #[] w (TruePost w) := by
  go_enter Try.func16, Try.ntmps16
  go_wp2_with fail
  refine (new_calls (Has.nil w)).mono ?_
  rintro e w1 ⟨p, rfl, hA, hB⟩
  have HAP := Aside0.mk (append_calls (hA.alloc (.cells #[.int .u8 1, .int .u8 2, .int .u8 3] 5)) (fine_new.ok (by omega)) (s := nA) (by decide) (c2 := 3) (lit_B w1 [1, 2, 3] (by decide)) (by decide))
  rw [aw_1] at HAP
  have HB1 := Aside0.mk (hB.alloc hA.size (.cells #[.int .u8 1, .int .u8 2, .int .u8 3] 5))
  clear hA hB
  go_wp2_with fail
  refine HAP.out.mono ?_
  rintro e w2 ⟨rfl, hA, hB⟩
  have HSY := Aside0.mk (sync_calls hA (fine1.ok (by omega)) (s := nA) (by decide))
  rw [aw_2] at HSY
  have HB2 := Aside0.mk (HB1.out.trans hB)
  clear hA hB HAP HB1
  go_wp2_with fail
  refine HSY.out.mono ?_
  rintro e w3 ⟨rfl, hA, hB⟩
  have HAP := Aside0.mk (append_calls (hA.alloc (.cells #[.int .u8 4, .int .u8 5] 5)) (fine2.ok (by omega)) (s := nA) (by decide) (c2 := 2) (lit_B w3 [4, 5] (by decide)) (by decide))
  rw [aw_3] at HAP
  have HB3 := Aside0.mk ((HB2.out.trans hB).alloc hA.size (.cells #[.int .u8 4, .int .u8 5] 5))
  clear hA hB HSY HB2
  go_wp2_with fail
  refine HAP.out.mono ?_
  rintro e w4 ⟨rfl, hA, hB⟩
  have HAP2 := Aside0.mk (append_calls (hA.alloc (.cells #[.int .u8 6] 5)) (fine3.ok (by omega)) (s := nB) (by decide) (c2 := 1) (lit_B w4 [6] (by decide)) (by decide))
  rw [aw_4] at HAP2
  have HB4 := Aside0.mk ((HB3.out.trans hB).alloc hA.size (.cells #[.int .u8 6] 5))
  clear hA hB HAP HB3
  go_wp2_with fail
  refine HAP2.out.mono ?_
  rintro e w5 ⟨rfl, hA, hB⟩
  have HSZ := Aside0.mk (size_calls hA fine4.rise (fine4.ok (by omega)) (s := nA) (by decide))
  rw [aw_6.1, aw_6.2.1] at HSZ
  have HB5 := Aside0.mk (HB4.out.trans hB)
  clear hA hB HAP2 HB4
  go_wp2_with fail
  refine HSZ.out.mono ?_
  rintro e w6 ⟨rfl, hA, hB⟩
  have HCR := Aside0.mk (crash_calls (lit_rowI hA [1] (by decide)).swap (fine4.ok (by omega)) fine4.rise fine4.safe (keep := [1]) (ck := 1) (Ak := some ⟨w6.heap.size, 0, none⟩) (fun w' hA' _ => by
    obtain ⟨_, _, ev, -, hC⟩ := hA'.reads (d := kI) (e := 3) (v := .slice (some ⟨w6.heap.size, 0, none⟩) [1].length [1].length) (xs := [1]) (by simp)
    cases ev
    exact hC))
  rw [aw_5] at HCR
  have HB6 := Aside0.mk ((HB5.out.trans hB).alloc hA.size (.cells #[.int .i64 1] 3))
  clear hA hB HSZ HB5
  go_wp2_with fail
  refine HCR.out.mono ?_
  rintro e w7 ⟨rfl, hA, hB⟩
  have HRD := Aside0.mk (read_calls hA fine5.rise (fine5.ok (by omega)) (s := nA) (by decide))
  unfold ReadPost at HRD
  rw [aw_6.2.2.1, aw_6.2.2.2.2.1] at HRD
  have HB7 := Aside0.mk (HB6.out.trans hB)
  clear hA hB HCR HB6
  go_wp2_with fail
  refine HRD.out.mono ?_
  rintro e w8 ⟨v, rfl, hA, hB⟩
  obtain ⟨Av, cv, rfl, -, -⟩ := hA.reads (d := kB) (e := 5) (v := v) (xs := [1, 2, 3, 4]) (by simp)
  have HA8 := Aside0.mk hA
  have HRB := Aside0.mk (read_calls hA fine5.rise (fine5.ok (by omega)) (s := nB) (by decide))
  unfold ReadPost at HRB
  rw [aw_6.2.2.2.1, aw_6.2.2.2.2.2] at HRB
  have HB8 := Aside0.mk (HB7.out.trans hB)
  clear hA hB HRD HB7
  go_wp2_with fail
  refine HRB.out.mono ?_
  rintro e w9 ⟨vb, rfl, hA, hB⟩
  obtain ⟨Ab, cb, rfl, -, -⟩ := hA.reads (d := kB) (e := 5) (v := vb) (xs := []) (by simp)
  obtain ⟨_, _, ev, -, hCv⟩ := hA.reads (d := kB) (e := 5) (v := .slice Av [1, 2, 3, 4].length cv) (xs := [1, 2, 3, 4]) (by simp)
  cases ev
  have HB9 := Aside0.mk (HB8.out.trans hB)
  have g1 : (convert 23 9 (.slice Av 4 cv)).run Try.prog w9 = .ok (.string ⟨#[1, 2, 3, 4]⟩) w9 := Kd.C_string (P := Try.prog) (c := cv) Try.underlying23 Try.underlying5 Try.underlying9 hCv
  clear hA hB hCv HRB HB8 HA8
  go_wp2_with fail
  go_ret
  exact ⟨rfl, HB9.out⟩
end Go.Proofs.Ytibnakpefjjoiaa.Fs
