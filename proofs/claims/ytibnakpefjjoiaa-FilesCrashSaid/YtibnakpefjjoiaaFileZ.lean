/- Do bytes begin with others: walked; a store into a row of one's own; what each turn of FilesCrash meets. No law is proved here. -/
import Derived.Test.YtibnakpefjjoiaaFileY
namespace Go.Proofs.Ytibnakpefjjoiaa.Fs
open Go.RowKit Go.Proofs.YtibnakpefjjoiaaW.PrintWords Go.Proofs.YtibnakpefjjoiaaW.PrintLast Go.Proofs.YtibnakpefjjoiaaW.PrintMore Go.Proofs.Ytibnakpefjjoiaa.Q Go.Proofs.Ytibnakpefjjoiaa.Own
set_option linter.unusedVariables false
set_option linter.unusedSimpArgs false
attribute [local go_sem ↓] Go.wp_at_zero Go.wp_at_succ

set_option maxHeartbeats 4000000 in
set_option maxRecDepth 100000 in
theorem begins_calls {w : World} {A0 A1 : Option Addr} {c0 c1 : Nat} {xs ys : List Int} (h0 : Kd.C kB w A0 xs.length xs) (hc0 : xs.length ≤ c0) (h1 : Kd.C kB w A1 ys.length ys) (hp : ys = xs.take ys.length) (hx : xs.length ≤ 100000000) :
    Calls Try.prog 24 #[.slice A0 xs.length c0, .slice A1 ys.length c1] w fun e w' => e = .returned (.bool true) ∧ w' = w.drew := by
  have hlen : ys.length ≤ xs.length := by
    have := congrArg List.length hp
    rw [List.length_take] at this
    omega
  have h2 : Kd.C kB w A0 ys.length ys := by
    have := Kd.C_take h0 hlen
    rw [← hp] at this
    exact this
  have g1 := Kd.C_string (P := Try.prog) (c := c0) Try.underlying23 Try.underlying5 Try.underlying9 (Kd.C_drew h2)
  have g2 := Kd.C_string (P := Try.prog) (c := c1) Try.underlying23 Try.underlying5 Try.underlying9 (Kd.C_drew h1)
  generalize strOfNums ys = sm at g1 g2
  have f2 : ys.length ≤ c0 := by omega
  have f3 : decide ((ys.length : Int) ≤ (xs.length : Int)) = true := decide_eq_true (by omega)
  clear h0 h1 h2 hp hc0
  generalize ys.length = m at *
  generalize xs.length = n at *
  have f1 : decide (0 ≤ (m : Int)) = true := decide_eq_true (by omega)
  go_enter Try.func24, Try.ntmps24
  go_wp2_with fail
  refine start_ (n := 16) (S := fun w' => (convert 23 9 (.slice A0 m c0)).run Try.prog w' = .ok (.string sm) w' ∧ (convert 23 9 (.slice A1 m c1)).run Try.prog w' = .ok (.string sm) w') (ds := []) #[false, false, false, false, false, false, false, false, false, false, false, false, false, false, false, false] (by kernel_rfl) rfl rfl ⟨g1, g2⟩ (fun hHeld => ?_)
  refine pure_ (i := 0) (N := some 5) (v := ?_) (a' := ?_) #[true, false, false, false, false, false, false, false, false, false, false, false, false, false, false, false] rfl rfl (by kernel_rfl) (fun _ _ _ h => h) (Or.inl ⟨by rfl, ?_⟩) ?_ ?_
  rotate_left
  · intro w'
    go_simp
    with_reducible rfl
  rotate_left
  · simp only [Act.put, List.setIfInBounds_toArray, List.set_cons_zero, List.set_cons_succ, i64_w, i32_w]
    rfl
  refine pure_ (i := 1) (N := some 6) (v := ?_) (a' := ?_) #[true, true, false, false, false, false, false, false, false, false, false, false, false, false, false, false] rfl rfl (by kernel_rfl) (fun _ _ _ h => h) (Or.inl ⟨by rfl, ?_⟩) ?_ ?_
  rotate_left
  · intro w'
    go_simp
    with_reducible rfl
  rotate_left
  · simp only [Act.put, List.setIfInBounds_toArray, List.set_cons_zero, List.set_cons_succ, i64_w, i32_w]
    rfl
  refine pure_ (i := 2) (N := some 7) (v := ?_) (a' := ?_) #[true, true, true, false, false, false, false, false, false, false, false, false, false, false, false, false] rfl rfl (by kernel_rfl) (fun _ _ _ h => h) (Or.inl ⟨by rfl, ?_⟩) ?_ ?_
  rotate_left
  · intro w'
    go_simp
    with_reducible rfl
  rotate_left
  · simp only [Act.put, List.setIfInBounds_toArray, List.set_cons_zero, List.set_cons_succ, i64_w, i32_w]
    rfl
  refine pure_ (i := 3) (N := some 8) (v := ?_) (a' := ?_) #[true, true, true, true, false, false, false, false, false, false, false, false, false, false, false, false] rfl rfl (by kernel_rfl) (fun _ _ _ h => h) (Or.inl ⟨by rfl, ?_⟩) ?_ ?_
  rotate_left
  · intro w'
    go_simp
    with_reducible rfl
  rotate_left
  · simp only [Act.put, List.setIfInBounds_toArray, List.set_cons_zero, List.set_cons_succ, i64_w, i32_w]
    rfl
  refine pure_ (i := 4) (N := some 9) (v := ?_) (a' := ?_) #[true, true, true, true, true, false, false, false, false, false, false, false, false, false, false, false] rfl rfl (by kernel_rfl) (fun _ _ _ h => h) (Or.inl ⟨by rfl, ?_⟩) ?_ ?_
  rotate_left
  · intro w'
    go_simp
    with_reducible rfl
  rotate_left
  · simp only [Act.put, List.setIfInBounds_toArray, List.set_cons_zero, List.set_cons_succ, i64_w, i32_w]
    rfl
  refine pure_ (i := 5) (N := some 10) (v := ?_) (a' := ?_) #[true, true, true, true, true, true, false, false, false, false, false, false, false, false, false, false] rfl rfl (by kernel_rfl) (fun _ _ _ h => h) (Or.inl ⟨by rfl, ?_⟩) ?_ ?_
  rotate_left
  · intro w'
    go_simp
    with_reducible rfl
  rotate_left
  · simp only [Act.put, List.setIfInBounds_toArray, List.set_cons_zero, List.set_cons_succ, i64_w, i32_w]
    rfl
  refine pure_ (i := 6) (N := some 11) (v := ?_) (a' := ?_) #[true, true, true, true, true, true, true, false, false, false, false, false, false, false, false, false] rfl rfl (by kernel_rfl) (fun _ _ _ h => h) (Or.inl ⟨by rfl, ?_⟩) ?_ ?_
  rotate_left
  · intro w'
    go_simp
    with_reducible rfl
  rotate_left
  · simp only [Act.put, List.setIfInBounds_toArray, List.set_cons_zero, List.set_cons_succ, i64_w, i32_w]
    rfl
  refine pure_ (i := 7) (N := some 12) (v := ?_) (a' := ?_) #[true, true, true, true, true, true, true, true, false, false, false, false, false, false, false, false] rfl rfl (by kernel_rfl) (fun _ _ _ h => h) (Or.inl ⟨by rfl, ?_⟩) ?_ ?_
  rotate_left
  · intro w'
    go_simp
    with_reducible rfl
  rotate_left
  · simp only [Act.put, List.setIfInBounds_toArray, List.set_cons_zero, List.set_cons_succ, i64_w, i32_w]
    rfl
  refine pure_ (i := 8) (N := some 13) (v := ?_) (a' := ?_) #[true, true, true, true, true, true, true, true, true, false, false, false, false, false, false, false] rfl rfl (by kernel_rfl) (fun _ _ _ h => h) (Or.inl ⟨by rfl, ?_⟩) ?_ ?_
  rotate_left
  · intro w'
    go_simp
    with_reducible rfl
  rotate_left
  · simp only [Act.put, List.setIfInBounds_toArray, List.set_cons_zero, List.set_cons_succ, i64_w, i32_w]
    rfl
  refine pure_ (i := 9) (N := some 14) (v := ?_) (a' := ?_) #[true, true, true, true, true, true, true, true, true, true, false, false, false, false, false, false] rfl rfl (by kernel_rfl) (fun _ _ _ h => h) (Or.inl ⟨by rfl, ?_⟩) ?_ ?_
  rotate_left
  · intro w'
    go_simp
    with_reducible rfl
  rotate_left
  · simp only [Act.put, List.setIfInBounds_toArray, List.set_cons_zero, List.set_cons_succ, i64_w, i32_w]
    rfl
  refine pure_ (i := 11) (N := some 16) (v := ?_) (a' := ?_) #[true, true, true, true, true, true, true, true, true, true, false, true, false, false, false, false] rfl rfl (by kernel_rfl) (fun _ _ _ h => h) (Or.inl ⟨by rfl, ?_⟩) ?_ ?_
  rotate_left
  · intro w'
    go_simp
    with_reducible rfl
  rotate_left
  · simp only [Act.put, List.setIfInBounds_toArray, List.set_cons_zero, List.set_cons_succ, i64_w, i32_w]
    rfl
  refine take_ (i := 10) (N := some 15) (v := ?_) (a' := ?_) #[true, true, true, true, true, true, true, true, true, true, true, true, false, false, false, false] rfl rfl (by kernel_rfl) (fun _ _ _ h => h) (Or.inl ⟨by rfl, ?_⟩) hHeld ?_ ?_
  rotate_left
  · rintro w' ⟨s0, s1⟩
    go_simp
    with_reducible rfl
  rotate_left
  · simp only [Act.put, List.setIfInBounds_toArray, List.set_cons_zero, List.set_cons_succ, i64_w, i32_w]
    rfl
  refine take_ (i := 12) (N := some 17) (v := ?_) (a' := ?_) #[true, true, true, true, true, true, true, true, true, true, true, true, true, false, false, false] rfl rfl (by kernel_rfl) (fun _ _ _ h => h) (Or.inl ⟨by rfl, ?_⟩) hHeld ?_ ?_
  rotate_left
  · rintro w' ⟨s0, s1⟩
    go_simp
    with_reducible rfl
  rotate_left
  · simp only [Act.put, List.setIfInBounds_toArray, List.set_cons_zero, List.set_cons_succ, i64_w, i32_w]
    rfl
  refine pure_ (i := 13) (N := some 18) (v := ?_) (a' := ?_) #[true, true, true, true, true, true, true, true, true, true, true, true, true, true, false, false] rfl rfl (by kernel_rfl) (fun _ _ _ h => h) (Or.inl ⟨by rfl, ?_⟩) ?_ ?_
  rotate_left
  · intro w'
    go_simp
    with_reducible rfl
  rotate_left
  · simp only [Act.put, List.setIfInBounds_toArray, List.set_cons_zero, List.set_cons_succ, i64_w, i32_w]
    rfl
  refine pure_ (i := 14) (N := some 19) (v := ?_) (a' := ?_) #[true, true, true, true, true, true, true, true, true, true, true, true, true, true, true, false] rfl rfl (by kernel_rfl) (fun _ _ _ h => h) (Or.inl ⟨by rfl, ?_⟩) ?_ ?_
  rotate_left
  · intro w'
    go_simp
    with_reducible rfl
  rotate_left
  · simp only [Act.put, List.setIfInBounds_toArray, List.set_cons_zero, List.set_cons_succ, i64_w, i32_w]
    rfl
  refine pure_ (i := 15) (N := some 4) (v := ?_) (a' := ?_) #[true, true, true, true, true, true, true, true, true, true, true, true, true, true, true, true] rfl rfl (by kernel_rfl) (fun _ _ _ h => h) (Or.inl ⟨by rfl, ?_⟩) ?_ ?_
  rotate_left
  · intro w'
    go_simp
    with_reducible rfl
  rotate_left
  · simp only [Act.put, List.setIfInBounds_toArray, List.set_cons_zero, List.set_cons_succ, i64_w, i32_w]
    rfl
  refine done_ (by kernel_rfl) ?_

  go_wp2_with fail
  go_ret
  exact ⟨rfl, rfl⟩
theorem frozen_row {α : Type} {d : Kd α} {e : Nat} {w : World} {base : Nat} {ok : Nat → Prop} {g n c : Nat} {xs : List α} (h : d.R e w base ok (.slice (some ⟨g, 0, none⟩) n c) xs) (j : Nat) : w.frozen? ⟨g, j, none⟩ = false := by
  obtain ⟨_, inner, ho, hr⟩ := h
  obtain ⟨cells, hc⟩ := own_typed ho g (by simp [Value.ownBlock])
  exact blk_frozen hc _
/-- A place in a row of places is written over. -/
theorem row_putH {B : Nat} {w : World} {Ts : List Th} {ad : Addr} {n c : Nat} {l : List Hd} (h : Has B w (rowT kH 23 (.slice (some ad) n c) l :: Ts)) (i : Nat) (hi : i < l.length) (x : Hd) :
    Has B (w.setCell (ad.add i) (.slice x.1 x.2.1 x.2.2)) (rowT kH 23 (.slice (some ad) n c) (l.set i x) :: Ts) ∧ Below B w (w.setCell (ad.add i) (.slice x.1 x.2.1 x.2.2)) ∧ w.frozen? (ad.add i) = false := by
  obtain ⟨F, hR, hFb, put⟩ := h.head
  have hR' : Kd.R kH 23 w 0 F (.slice (some ad) n c) l := hR
  obtain ⟨hn, hnc, hC⟩ := Kd.R_reads' hR'
  obtain ⟨g, rfl⟩ : ∃ g, ad = ⟨g, 0, none⟩ := by
    obtain ⟨_, inner, ho, _⟩ := hR'
    rcases ho.2 with ⟨_, h0⟩ | ⟨g, cap, cur, hv, _, _, _, _⟩
    · omega
    · injection hv with h1 _ _
      injection h1 with h1
      exact ⟨g, h1⟩
  rw [add_plain]
  obtain ⟨ad, e0, h2⟩ := at_H hC i (x := l[i]) (List.getElem?_eq_getElem hi)
  cases e0
  rw [add_plain] at h2
  have hg : F g := hR'.1 g rfl
  obtain ⟨s1, s2⟩ := Kd.R_seg (okp := fun _ => False) hR' (i : Int) (by omega) (by omega) (c := [.slice (l[i]).1 (l[i]).2.1 (l[i]).2.2]) (seg := [.slice x.1 x.2.1 x.2.2]) (j := 0) rfl
    (fun j q hq => by
      rw [Int.toNat_natCast]
      match j, hq with
      | 0, hq =>
        cases hq
        show w.cell? ⟨g, i * 1 + 0, none⟩ = _
        rw [Nat.mul_one, Nat.add_zero]
        exact h2
      | j + 1, hq => cases hq) (show 0 + 1 ≤ 1 by decide) (x' := x) rfl (fun _ f => f.elim)
  rw [Int.toNat_natCast] at s1 s2
  have ei : i * kH.sz + 0 = i := by show i * 1 + 0 = i; omega
  rw [ei] at s1 s2
  have s1' : Kd.R kH 23 (w.setCell ⟨g, i, none⟩ (.slice x.1 x.2.1 x.2.2)) 0 F (.slice (some ⟨g, 0, none⟩) n c) (l.set i x) := s1
  have s2' : w.grownBy (w.setCell ⟨g, i, none⟩ (.slice x.1 x.2.1 x.2.2)) (some g) := s2
  obtain ⟨p1, p2⟩ := put _ F (rowT kH 23 (.slice (some ⟨g, 0, none⟩) n c) (l.set i x)) ((KeepF.refl F w).grown s2' (fun k e => by injection e with e; subst e; exact .inl hg)) s1' (fun k hk => ⟨.inl hk, Nat.lt_of_lt_of_le (hFb k hk).2 s2'.size⟩)
  exact ⟨p1, p2, frozen_row hR' i⟩
theorem perm6 (a b c d e f : Th) (R : List Th) : (a :: b :: c :: d :: e :: f :: R).Perm (b :: d :: a :: e :: f :: c :: R) := by
  refine (List.Perm.swap b a _).trans (List.Perm.cons b ?_)
  refine ((List.perm_append_comm (l₁ := [a, c]) (l₂ := [d])).append_right (e :: f :: R)).trans ?_
  refine List.Perm.cons d (List.Perm.cons a ?_)
  exact (List.perm_append_comm (l₁ := [c]) (l₂ := [e, f])).append_right R
/-- The store at a turn's start. -/
def tS (st : Stt) (keep : List Int) (t : Nat) : Stt := if t = 0 then st else crashS st keep
theorem tS_crash {st : Stt} (hf : SafeS st) (keep : List Int) (t : Nat) : crashS (tS st keep t) keep = crashS st keep := by
  unfold tS
  split
  · rfl
  · exact crash_twice hf keep
theorem tS_fine {st : Stt} {k : Nat} (h : Fine st k) (keep : List Int) (t : Nat) : Fine (tS st keep t) k := by
  unfold tS
  split
  · exact h
  · exact fine_crash h keep
theorem tS_next (st : Stt) (keep : List Int) (t : Nat) : tS st keep (t + 1) = crashS st keep := by
  unfold tS
  rw [if_neg (by omega)]
theorem names_same (st : Stt) (keep : List Int) : namesL (crashS st keep) = namesL st := by
  unfold namesL
  exact crash_names keep 0 st.L
def mixF (L1 Lt : List SF) (j : Nat) (i : Nat) : List Int := if i < j then fB L1 i else fB Lt i
/-- What a turn meets at a file. -/
theorem turn_at {st : Stt} {keep : List Int} (hf : SafeS st) (t : Nat) {j : Nat} (hj : j < st.L.length) (hj1 : j < (crashS st keep).L.length) : ((crashS st keep).L[j]).f0 = (st.L[j]).f0 ∧ ((crashS st keep).L[j]).f2 = (((crashS st keep).L[j]).f1.length : Int) ∧ (st.L[j]).f2 ≤ (((crashS st keep).L[j]).f1.length : Int) ∧ ((crashS st keep).L[j]).f1 = (fB (tS st keep t).L j).take ((crashS st keep).L[j]).f1.length ∧ (t ≠ 0 → fB (tS st keep t).L j = ((crashS st keep).L[j]).f1) := by
  have h := crf_at keep 0 st.L hf j hj hj1
  refine ⟨h.name, h.all, h.safe, ?_, fun ht => ?_⟩
  · unfold tS
    split
    · rw [fB_at hj]
      exact h.begins
    · rw [fB_at hj1, List.take_length]
  · unfold tS
    rw [if_neg ht, fB_at hj1]
end Go.Proofs.Ytibnakpefjjoiaa.Fs
