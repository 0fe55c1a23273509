/- The document's store of files: Crash: walked. No law is proved here. (with what is built on it) -/
import Derived.Test.YtibnakpefjjoiaaM3
namespace Go.Proofs.Ytibnakpefjjoiaa.Fs
open Go.RowKit Go.Proofs.YtibnakpefjjoiaaW.PrintWords Go.Proofs.YtibnakpefjjoiaaW.PrintLast Go.Proofs.YtibnakpefjjoiaaW.PrintMore Go.Proofs.Ytibnakpefjjoiaa.Q Go.Proofs.Ytibnakpefjjoiaa.Own
set_option linter.unusedVariables false
set_option linter.unusedSimpArgs false
attribute [local go_sem ↓] Go.wp_at_zero Go.wp_at_succ

/-- append(v, ys...) to a row of one's own, in a region that draws its order. -/
theorem app_rows_step {P : Program} {ops : Array Oper} {o : Oper} {a : Act} {Kc : Act → World → Prop} {Q : Exit → Act → World → Prop} {α : Type} (d : Kd α) {B : Nat} {W : World} {Ts : List Th} {e : TypeId} {v : Value} {xs ys : List α} (h : Has B W (rowT d e v xs :: Ts))
    (hw : Region.wanted o (yielded ops a.tmps) = true) (s x : Operand) (t : TypeId) (z : Value) (bytes : Nat) (ho : o.op = .call { callee := .builtin .append, args := #[s, x], argTypes := #[t, t] })
    (ht : P.underlying t = some (.slice e)) (hinfo : (P.info? e).map (fun i => (i.zero, i.size, i.bytes)) = some (some z, d.sz, bytes)) (hz : z.cells.size = d.sz) (hs0 : 0 < d.sz) (hb0 : 0 < bytes)
    (A : Option Addr) (c : Nat) (hs : a.eval s = v) (hx : a.eval x = .slice A ys.length c) (HC : d.C W A ys.length ys) (hKM : ∀ x cs, d.K W x cs → d.M W 0 (fun _ => False) x cs) (hl : (xs.length + ys.length) * bytes ≤ 140737488355328)
    (hK : ∀ v1 w1, Has B w1 (rowT d e v1 (xs ++ ys) :: Ts) → Below B W w1 → Kc (a.put o.dst v1) w1) :
    if Region.wanted o (yielded ops a.tmps) = true then Oper.wp P o a W Kc Q else Kc (a.put o.dst undef) W := by
  obtain ⟨F, hr, hFb, put⟩ := h.head
  have hr' : Kd.R d e W 0 F v xs := hr
  refine Kd.R_append_rows_step d (Rr := d.K W) (w0 := W) (W := W) 0 hw s x t e z bytes ho ht hinfo hz hs0 hb0 v xs ys A ys.length c (fun k => F k ∨ W.heap.size ≤ k) (fun _ => False) hs hx (Kd.R_mono hr' fun k hk => .inl hk) HC hKM (fun _ f => f.elim) (fun k hk => .inr hk) (Below.refl _ _) (Nat.zero_le _) hl ?_
  intro v1 w1 hr1 _ hg _
  obtain ⟨q1, q2⟩ := row_grown hFb put hr'.1 hg hr1
  exact hK v1 w1 q1 q2
theorem row_cellsF {B : Nat} {w : World} {Ts : List Th} {ad : Addr} {n c : Nat} {l : List FH} (h : Has B w Ts) (hm : rowF (.slice (some ad) n c) l ∈ Ts) (i : Nat) {x : FH} (hx : l[i]? = some x) :
    w.cell? (ad.add (i * 3)) = some (.string x.1) ∧ w.cell? ⟨(ad.add (i * 3)).block, (ad.add (i * 3)).off + 1, none⟩ = some (.slice x.2.1.1 x.2.1.2.1 x.2.1.2.2) ∧ w.cell? ⟨(ad.add (i * 3)).block, (ad.add (i * 3)).off + 2, none⟩ = some (.int .i64 x.2.2) := by
  obtain ⟨A, c', ev, -, hC⟩ := h.reads hm
  injection ev with e1 e2 e3
  subst e1
  obtain ⟨ad', e, h0, h1, h2⟩ := at_F hC i hx
  cases e
  exact ⟨h0, h1, h2⟩
theorem crash1_is (keep : List Int) (n : Nat) {x0 : ByteArray} {x1 : List Int} {x2 : Int} (h : SafeF ⟨x0, x1, x2⟩) : ∃ m : Nat, x2 + moreI keep n ⟨x0, x1, x2⟩ = (m : Int) ∧ m ≤ x1.length ∧ crash1 keep n ⟨x0, x1, x2⟩ = ⟨x0, x1.take m, (m : Int)⟩ := by
  have h1 := more_le keep n h
  have h2 := h.1
  dsimp only at h1 h2
  obtain ⟨m, hm⟩ : ∃ m : Nat, x2 + moreI keep n ⟨x0, x1, x2⟩ = (m : Int) := ⟨(x2 + moreI keep n ⟨x0, x1, x2⟩).toNat, by omega⟩
  refine ⟨m, hm, by omega, ?_⟩
  unfold crash1
  dsimp only
  rw [hm, Int.toNat_natCast]
set_option maxHeartbeats 8000000 in
set_option maxRecDepth 100000 in
theorem rcrash_calls {B : Nat} {w : World} {q : Nat} {st : Stt} {Ts : List Th} {k0 : Nat} (h : RefHas B w q st Ts) (hg : Fine st k0) {keep : List Int} {Ak : Option Addr} {ck : Nat} (hK : ∀ w', Below B w w' → Kd.C kI w' Ak keep.length keep) :
    Calls Try.prog 50 #[ptr q, .slice Ak keep.length ck] w (RMeth B w q (crashS st keep) (.tuple #[]) Ts) := by
  have hu56 := Try.underlying56
  obtain ⟨v, fs, hA, hf⟩ := h
  have hL : st.L.length ≤ 64 := hg.n
  obtain ⟨A, c, rfl, -, -⟩ := hA.reads (d := kF) (e := 56) (v := v) (xs := fs) (by simp)
  have hfl := hf.1
  have HG := Aside0.mk hg
  have HK := Aside0.mk hK
  rw [hfl] at hA
  obtain ⟨left, acts, L⟩ := st
  dsimp only at hA hf hL hfl
  have HA0 : Aside0 (Has B w (refB q (.slice A L.length c) left acts :: rowF (.slice A L.length c) fs :: ([] ++ Ts))) := ⟨hA⟩
  have HF0 : Aside0 (FsOk (midF keep L 0) fs ([] ++ Ts)) := ⟨hf⟩
  have HB0 : Aside0 (Below B w w) := ⟨Below.refl _ _⟩
  obtain ⟨i5, hi5, -⟩ := Option.map_eq_some_iff.1 inf5
  clear hA hf hg hK hfl
  go_enter Try.func50, Try.ntmps50
  go_wp2_with fail
  go_loopw [5, 4] (fun i n wr => ∃ (k : Nat) (Ns : List Th) (fs1 : List FH), i = .int .i64 k ∧ n = .int .i64 ((crashN 0 (L.take k) : Nat) : Int) ∧ k ≤ L.length ∧ Aside0 (FsOk (midF keep L k) fs1 (Ns ++ Ts)) ∧ Aside0 (Has B wr (refB q (.slice A L.length c) left acts :: rowF (.slice A L.length c) fs1 :: (Ns ++ Ts))) ∧ Aside0 (Below B w wr)) (fun i _ _ => L.length - (intOf i).toNat)
  case atStart => exact ⟨0, [], fs, rfl, rfl, by omega, HF0, HA0, HB0⟩
  case round =>
    clear HA0 HB0 HF0
    obtain ⟨k, Ns, fs1, rfl, rfl, hk, HF1, HA, HB⟩ := hrel
    obtain ⟨c0, c1, -, cf⟩ := ref_cells HA.out (q := q) (v := .slice A L.length c) (left := left) (acts := acts) (by simp)
    by_cases hlt : k < L.length
    · have d1 : decide ((k : Int) < (L.length : Int)) = true := decide_eq_true (by omega)
      have d2 : decide (0 ≤ (k : Int)) = true := decide_eq_true (by omega)
      have ek : wrap64 ((k : Int) + 1) = ((k + 1 : Nat) : Int) := wrap_nat (by omega)
      obtain ⟨A', c', hx, hmem⟩ := HF1.out.2 k (by rw [mid_length]; exact hlt)
      have hmk : (midF keep L k)[k]'(by rw [mid_length]; exact hlt) = L[k] := by
        have := mid_here keep L hlt
        rw [List.getElem?_eq_getElem (by rw [mid_length]; exact hlt)] at this
        exact Option.some.inj this
      rw [hmk] at hx hmem
      obtain ⟨_, _, ev, -, hC⟩ := HA.out.reads (d := kF) (e := 56) (v := .slice A L.length c) (xs := fs1) (by simp)
      obtain ⟨rfl, -, rfl⟩ : A = _ ∧ _ ∧ c = _ := by injection ev with e1 e2 e3; exact ⟨e1, e2, e3⟩
      obtain ⟨ad, rfl, q0, q1, q2⟩ := at_F hC k hx
      have hsf : SafeF L[k] := HG.out.safe _ (List.getElem_mem hlt)
      have hfew : (L[k]).f1.length ≤ 1048576 := HG.out.few _ (List.getElem_mem hlt)
      have hms := mid_same keep L hlt
      have hmn := mid_set keep L hlt
      have hnk : crashN 0 (L.take k) ≤ k := Nat.le_trans (crashN_le 0 _) (by rw [List.length_take]; omega)
      generalize L[k] = x at q0 q1 q2 hsf hfew hms hmn hmem hx
      generalize crashN 0 (L.take k) = nn at hms hmn hnk ⊢
      obtain ⟨x0, x1, x2⟩ := x
      dsimp only at q0 q1 q2 hms hmn hmem hx hfew
      have hbx := HA.out.box #[.string x0, .slice A' x1.length c', .int .i64 x2] 56
      have HB1 := Aside0.mk (HB.out.alloc HA.out.size (.cells #[.string x0, .slice A' x1.length c', .int .i64 x2] 56))
      clear hmk ev hC
      by_cases hs : x2 = (x1.length : Int)
      · obtain ⟨m1, m2⟩ := hms hs
        have HF2 : Aside0 (FsOk (midF keep L (k + 1)) fs1 (Ns ++ Ts)) := ⟨by rw [m1]; exact HF1.out⟩
        have e1 : (x2 == (x1.length : Int)) = true := beq_iff_eq.2 hs
        have HA2 := Aside0.mk (HA.out.alloc (.cells #[.string x0, .slice A' x1.length c', .int .i64 x2] 56))
        have HM2 := Aside0.mk m2
        clear hs hms hmn hx hmem m1 m2 hbx HF1 HA HB
        go_wp2_with fail
        go_roundw
        case rel => exact ⟨k + 1, Ns, fs1, by first | rfl | rw [ek], by rw [HM2.out], by omega, HF2, HA2, HB1⟩
        case measure => first | (simp [intOf]; omega) | (rw [ek]; simp [intOf]; omega)
      · have e1 : (x2 == (x1.length : Int)) = false := beq_eq_false_iff_ne.2 hs
        obtain ⟨m1, m2⟩ := hmn hs
        obtain ⟨m, hm, hml, hcr⟩ := crash1_is keep nn hsf
        have hmo := more_doc keep nn hsf
        have hmle := more_le keep nn hsf
        obtain ⟨s1, s2, -⟩ := hsf
        dsimp only at s1 s2 hmo hmle
        rw [hcr] at m1
        have HM1 := Aside0.mk m1
        have HM2 := Aside0.mk m2
        clear m1 m2 hcr hms hmn
        have en : wrap64 ((nn : Int) + 1) = ((nn + 1 : Nat) : Int) := wrap_nat (by omega)
        have em : wrap64 (m : Int) = (m : Int) := wrap_id (by omega) (by omega)
        generalize ht : (x1.length : Int) - x2 = t at hmo
        have ht0 : 0 ≤ t := by omega
        have et : wrap64 ((x1.length : Int) - x2) = t := by rw [ht]; exact wrap_id (by omega) (by omega)
        obtain ⟨ys, hys⟩ : ∃ ys, x1.take m = ys := ⟨_, rfl⟩
        have HYL : Aside0 (ys.length = m ∧ m ≤ 1048576) := ⟨by rw [← hys, List.length_take]; omega⟩
        rw [hys] at HM1
        obtain ⟨_, _, ev, hcc, hC⟩ := HA.out.reads (d := kB) (e := 5) (v := .slice A' x1.length c') (xs := x1) (List.mem_cons_of_mem _ (List.mem_cons_of_mem _ hmem))
        obtain ⟨rfl, -, rfl⟩ : A' = _ ∧ _ ∧ c' = _ := by injection ev with e1 e2 e3; exact ⟨e1, e2, e3⟩
        have HYC0 : Aside0 (Kd.C kB wr A' ys.length ys) := ⟨by
          have := Kd.C_take hC hml
          rw [hys] at this
          exact this⟩
        have hcut : ∀ W : World, (Instr.slice 23 (.slice A' x1.length c') none (some (.int .i64 (m : Int))) none).run Try.prog W = .ok (.slice A' m c') W := by
          have := cut_to (P := Try.prog) 23 5 .i64 Try.underlying23 hi5 A' x1.length c' (m : Int) (by omega) (by omega) hcc
          rw [Int.toNat_natCast] at this
          exact this
        have HXX := Aside0.mk hx
        clear hs ev hC hys hmem hx
        generalize hy : keep.getD nn 0 = y at hmo
        by_cases hn : nn < keep.length
        · obtain ⟨adk, rfl, hyc⟩ := at_I (HK.out wr HB.out) nn hn
          rw [hy] at hyc
          have hyc := fun o => cell_al o hyc
          have d3 : decide ((nn : Int) < (keep.length : Int)) = true := decide_eq_true (by omega)
          have d6 : decide (0 ≤ (nn : Int)) = true := decide_eq_true (by omega)
          clear hy
          by_cases hy0 : 0 < y
          · have d4 : decide (y > 0) = true := decide_eq_true hy0
            rw [show (if nn < keep.length ∧ 0 < y then y else 0) = y from if_pos ⟨hn, hy0⟩] at hmo
            by_cases hyt : t < y
            · have d5 : decide (y > t) = true := decide_eq_true hyt
              rw [if_pos hyt] at hmo
              have hM := hmo
              clear hmo
              have HMM : Aside0 (moreI keep nn ⟨x0, x1, x2⟩ = t) := ⟨hM⟩
              have e6 : wrap64 (x2 + t) = (m : Int) := by rw [← hM, hm]; exact em
              have e8 : x2 + t = (m : Int) := by rw [← hM]; exact hm
              have hbd := hbx.drew
              obtain ⟨r0, -, -, -⟩ := ref_cells hbd (q := q) (v := .slice (some ad) L.length c) (left := left) (acts := acts) (by simp)
              obtain ⟨bx, -, -, -⟩ := hbd.box_cell (b := wr.heap.size) (cs := #[.string x0, .slice A' x1.length c', .int .i64 x2]) (t := 56) (by simp)
              have b1 : (wr.alloc (.cells #[.string x0, .slice A' x1.length c', .int .i64 x2] 56)).drew.cell? ⟨wr.heap.size, 1, none⟩ = some (.slice A' x1.length c') := bx 1
              have b2 : (wr.alloc (.cells #[.string x0, .slice A' x1.length c', .int .i64 x2] 56)).drew.cell? ⟨wr.heap.size, 2, none⟩ = some (.int .i64 x2) := bx 2
              have HE := lit_rowB0 hbd
              rw [show (wr.alloc (.cells #[.string x0, .slice A' x1.length c', .int .i64 x2] 56)).drew.heap.size = wr.heap.size + 1 from World.size_alloc _ _] at HE
              have HE := Aside0.mk HE
              have HYC : Aside0 (Kd.C kB ((wr.alloc (.cells #[.string x0, .slice A' x1.length c', .int .i64 x2] 56)).drew.alloc (.cells #[] 5)) A' ys.length ys) := ⟨Kd.C_alloc (Kd.C_below HYC0.out (below_drew ((Below.refl _ wr).alloc (Nat.le_refl _) _))) _⟩
              have HB2 := Aside0.mk (((below_drew HB1.out)).alloc (show B ≤ (wr.alloc (.cells #[.string x0, .slice A' x1.length c', .int .i64 x2] 56)).drew.heap.size from hbd.size) (.cells #[] 5))
              clear hbd bx hM hbx HB1 HA HB HYC0 hm hmle s1 s2 ht
              go_wp2_with fail
              refine start_ (n := 17) (S := fun w' => w'.cell? ⟨q, 0, none⟩ = some (.slice (some ad) L.length c) ∧ w'.cell? ⟨wr.heap.size, 1, none⟩ = some (.slice A' x1.length c') ∧ w'.cell? ⟨wr.heap.size, 2, none⟩ = some (.int .i64 x2)) (ds := [16]) #[false, false, false, false, false, false, false, false, false, false, false, false, false, false, false, false, false] (by kernel_rfl) rfl rfl ⟨r0, b1, b2⟩ (fun hHeld => ?_)
              refine pure_ (i := 0) (N := some 61) (v := ?_) (a' := ?_) #[true, false, false, false, false, false, false, false, false, false, false, false, false, false, false, false, false] rfl rfl (by kernel_rfl) (fun _ _ _ h => h) (Or.inl ⟨by rfl, ?_⟩) ?_ ?_
              rotate_left
              · intro w'
                go_simp
                with_reducible rfl
              rotate_left
              · simp only [Act.put, List.setIfInBounds_toArray, List.set_cons_zero, List.set_cons_succ, i64_w, i32_w]
                rfl
              refine pure_ (i := 1) (N := some 62) (v := ?_) (a' := ?_) #[true, true, false, false, false, false, false, false, false, false, false, false, false, false, false, false, false] rfl rfl (by kernel_rfl) (fun _ _ _ h => h) (Or.inl ⟨by rfl, ?_⟩) ?_ ?_
              rotate_left
              · intro w'
                go_simp
                with_reducible rfl
              rotate_left
              · simp only [Act.put, List.setIfInBounds_toArray, List.set_cons_zero, List.set_cons_succ, i64_w, i32_w]
                rfl
              refine pure_ (i := 2) (N := some 63) (v := ?_) (a' := ?_) #[true, true, true, false, false, false, false, false, false, false, false, false, false, false, false, false, false] rfl rfl (by kernel_rfl) (fun _ _ _ h => h) (Or.inl ⟨by rfl, ?_⟩) ?_ ?_
              rotate_left
              · intro w'
                go_simp
                with_reducible rfl
              rotate_left
              · simp only [Act.put, List.setIfInBounds_toArray, List.set_cons_zero, List.set_cons_succ, i64_w, i32_w]
                rfl
              refine pure_ (i := 4) (N := some 65) (v := ?_) (a' := ?_) #[true, true, true, false, true, false, false, false, false, false, false, false, false, false, false, false, false] rfl rfl (by kernel_rfl) (fun _ _ _ h => h) (Or.inl ⟨by rfl, ?_⟩) ?_ ?_
              rotate_left
              · intro w'
                go_simp
                with_reducible rfl
              rotate_left
              · simp only [Act.put, List.setIfInBounds_toArray, List.set_cons_zero, List.set_cons_succ, i64_w, i32_w]
                rfl
              refine pure_ (i := 6) (N := some 67) (v := ?_) (a' := ?_) #[true, true, true, false, true, false, true, false, false, false, false, false, false, false, false, false, false] rfl rfl (by kernel_rfl) (fun _ _ _ h => h) (Or.inl ⟨by rfl, ?_⟩) ?_ ?_
              rotate_left
              · intro w'
                go_simp
                with_reducible rfl
              rotate_left
              · simp only [Act.put, List.setIfInBounds_toArray, List.set_cons_zero, List.set_cons_succ, i64_w, i32_w]
                rfl
              refine pure_ (i := 8) (N := some 69) (v := ?_) (a' := ?_) #[true, true, true, false, true, false, true, false, true, false, false, false, false, false, false, false, false] rfl rfl (by kernel_rfl) (fun _ _ _ h => h) (Or.inl ⟨by rfl, ?_⟩) ?_ ?_
              rotate_left
              · intro w'
                go_simp
                with_reducible rfl
              rotate_left
              · simp only [Act.put, List.setIfInBounds_toArray, List.set_cons_zero, List.set_cons_succ, i64_w, i32_w]
                rfl
              refine pure_ (i := 10) (N := some 71) (v := ?_) (a' := ?_) #[true, true, true, false, true, false, true, false, true, false, true, false, false, false, false, false, false] rfl rfl (by kernel_rfl) (fun _ _ _ h => h) (Or.inl ⟨by rfl, ?_⟩) ?_ ?_
              rotate_left
              · intro w'
                go_simp
                with_reducible rfl
              rotate_left
              · simp only [Act.put, List.setIfInBounds_toArray, List.set_cons_zero, List.set_cons_succ, i64_w, i32_w]
                rfl
              refine take_ (i := 3) (N := some 64) (v := ?_) (a' := ?_) #[true, true, true, true, true, false, true, false, true, false, true, false, false, false, false, false, false] rfl rfl (by kernel_rfl) (fun _ _ _ h => h) (Or.inl ⟨by rfl, ?_⟩) hHeld ?_ ?_
              rotate_left
              · rintro w' ⟨s0, s1, s2⟩
                go_simp
                with_reducible rfl
              rotate_left
              · simp only [Act.put, List.setIfInBounds_toArray, List.set_cons_zero, List.set_cons_succ, i64_w, i32_w]
                rfl
              refine take_ (i := 7) (N := some 68) (v := ?_) (a' := ?_) #[true, true, true, true, true, false, true, true, true, false, true, false, false, false, false, false, false] rfl rfl (by kernel_rfl) (fun _ _ _ h => h) (Or.inl ⟨by rfl, ?_⟩) hHeld ?_ ?_
              rotate_left
              · rintro w' ⟨s0, s1, s2⟩
                go_simp
                with_reducible rfl
              rotate_left
              · simp only [Act.put, List.setIfInBounds_toArray, List.set_cons_zero, List.set_cons_succ, i64_w, i32_w]
                rfl
              refine take_ (i := 9) (N := some 70) (v := ?_) (a' := ?_) #[true, true, true, true, true, false, true, true, true, true, true, false, false, false, false, false, false] rfl rfl (by kernel_rfl) (fun _ _ _ h => h) (Or.inl ⟨by rfl, ?_⟩) hHeld ?_ ?_
              rotate_left
              · rintro w' ⟨s0, s1, s2⟩
                go_simp
                with_reducible rfl
              rotate_left
              · simp only [Act.put, List.setIfInBounds_toArray, List.set_cons_zero, List.set_cons_succ, i64_w, i32_w]
                rfl
              refine pure_ (i := 11) (N := some 72) (v := ?_) (a' := ?_) #[true, true, true, true, true, false, true, true, true, true, true, true, false, false, false, false, false] rfl rfl (by kernel_rfl) (fun _ _ _ h => h) (Or.inl ⟨by rfl, ?_⟩) ?_ ?_
              rotate_left
              · intro w'
                go_simp
                with_reducible rfl
              rotate_left
              · simp only [Act.put, List.setIfInBounds_toArray, List.set_cons_zero, List.set_cons_succ, i64_w, i32_w]
                rfl
              refine pure_ (i := 12) (N := some 73) (v := ?_) (a' := ?_) #[true, true, true, true, true, false, true, true, true, true, true, true, true, false, false, false, false] rfl rfl (by kernel_rfl) (fun _ _ _ h => h) (Or.inl ⟨by rfl, ?_⟩) ?_ ?_
              rotate_left
              · intro w'
                go_simp
                with_reducible rfl
              rotate_left
              · simp only [Act.put, List.setIfInBounds_toArray, List.set_cons_zero, List.set_cons_succ, i64_w, i32_w]
                rfl
              refine one_ (i := 5) (N := some 66) #[true, true, true, true, true, true, true, true, true, true, true, true, true, false, false, false, false] rfl rfl (by kernel_rfl) (by decide) (fun K hK => ?_)
              refine value_ (w1 := ?_) (v := ?_) (by rfl) rfl ?_ ?_
              rotate_left 2
              · go_simp
                constructor
                · rfl
                · rfl
              refine hK.out _ _ ⟨cell_al _ r0, cell_al _ b1, cell_al _ b2⟩ (fun hHeld => ?_)
              clear hK K
              refine norm_ (a' := ?_) ?_ ?_
              rotate_left
              · show Act.put _ (some 66) _ = _
                simp only [Act.put, List.setIfInBounds_toArray, List.set_cons_zero, List.set_cons_succ, i64_w, i32_w]
                rfl
              refine one_ (i := 13) (N := some 74) #[true, true, true, true, true, true, true, true, true, true, true, true, true, true, false, false, false] rfl rfl (by kernel_rfl) (by decide) (fun K hK => ?_)
              refine app_rows_step kB HE.out (by rfl) (.tmp 66) (.tmp 73) 23 (.int .u8 0) 1 (by rfl) Try.underlying23 inf5 rfl (by decide) (by decide) A' c' (by rfl) (by rw [HYL.out.1]; rfl) HYC.out (fun x cs hx => mk_u8 hx) (by show (0 + ys.length) * 1 ≤ 140737488355328; have := HYL.out.1; have := HYL.out.2; omega) ?_
              intro v3 w3 hA3 hB3
              have hA3' : Has B w3 (rowB v3 ys :: boxT wr.heap.size #[.string x0, .slice A' x1.length c', .int .i64 x2] 56 :: refB q (.slice (some ad) L.length c) left acts :: rowF (.slice (some ad) L.length c) fs1 :: (Ns ++ Ts)) := hA3
              obtain ⟨A3, c3, rfl, -, -⟩ := hA3'.reads (d := kB) (e := 5) (v := v3) (xs := ys) (by simp)
              obtain ⟨s0, -, -, -⟩ := ref_cells hA3' (q := q) (v := .slice (some ad) L.length c) (left := left) (acts := acts) (by simp)
              obtain ⟨bx, -, -, -⟩ := hA3'.box_cell (b := wr.heap.size) (cs := #[.string x0, .slice A' x1.length c', .int .i64 x2]) (t := 56) (by simp)
              have s1 : w3.cell? ⟨wr.heap.size, 1, none⟩ = some (.slice A' x1.length c') := bx 1
              have s2 : w3.cell? ⟨wr.heap.size, 2, none⟩ = some (.int .i64 x2) := bx 2
              obtain ⟨-, y1, -⟩ := row_cellsF hA3' (ad := ad) (n := L.length) (c := c) (l := fs1) (by simp) k HXX.out
              dsimp only at y1
              obtain ⟨put1, -, fz⟩ := row_putF (hA3'.perm ((List.perm_append_comm (l₁ := [_, _, _]) (l₂ := [_])).append_right _)) k HXX.out
              dsimp only at put1
              obtain ⟨hA4, hB4⟩ := put1 (A3, ys.length, c3)
              dsimp only at hA4 hB4
              have HA4 := Aside0.mk hA4
              have HB4 := Aside0.mk ((HB2.out.trans hB3).trans hB4)
              have fz1 := fz ((ad.add (k * 3)).off + 1)
              clear hA3 hA3' hB3 bx put1 fz hA4 hB4
              refine hK.out _ _ ⟨s0, s1, s2⟩ (fun hHeld => ?_)
              clear hK K
              refine norm_ (a' := ?_) ?_ ?_
              rotate_left
              · show Act.put _ (some 74) _ = _
                simp only [Act.put, List.setIfInBounds_toArray, List.set_cons_zero, List.set_cons_succ, i64_w, i32_w]
                rfl
              refine pure_ (i := 14) (N := some 75) (v := ?_) (a' := ?_) #[true, true, true, true, true, true, true, true, true, true, true, true, true, true, true, false, false] rfl rfl (by kernel_rfl) (fun _ _ _ h => h) (Or.inl ⟨by rfl, ?_⟩) ?_ ?_
              rotate_left
              · intro w'
                go_simp
                with_reducible rfl
              rotate_left
              · simp only [Act.put, List.setIfInBounds_toArray, List.set_cons_zero, List.set_cons_succ, i64_w, i32_w]
                rfl
              refine pure_ (i := 15) (N := some 76) (v := ?_) (a' := ?_) #[true, true, true, true, true, true, true, true, true, true, true, true, true, true, true, true, false] rfl rfl (by kernel_rfl) (fun _ _ _ h => h) (Or.inl ⟨by rfl, ?_⟩) ?_ ?_
              rotate_left
              · intro w'
                go_simp
                with_reducible rfl
              rotate_left
              · simp only [Act.put, List.setIfInBounds_toArray, List.set_cons_zero, List.set_cons_succ, i64_w, i32_w]
                rfl
              refine last_ (i := 16) (N := none) #[true, true, true, true, true, true, true, true, true, true, true, true, true, true, true, true, true] rfl rfl (by kernel_rfl) (by decide) (fun K hK => ?_)
              refine skip_ (w1 := ?_) (by rfl) rfl ?_ ?_
              rotate_left
              · go_simp
                rfl
              refine hK.out _ _ ?_
              clear hK K
              refine done_ (by kernel_rfl) ?_

              clear r0 b1 b2 s0 s1 s2 fz1 y1 q0 q1 q2 c0 c1
              rw [HYL.out.1] at HA4 HB4 ⊢
              obtain ⟨r0, -, -, -⟩ := ref_cells HA4.out (q := q) (v := .slice (some ad) L.length c) (left := left) (acts := acts) (by simp)
              obtain ⟨bx, -, -, -⟩ := HA4.out.box_cell (b := wr.heap.size) (cs := #[.string x0, .slice A' x1.length c', .int .i64 x2]) (t := 56) (by simp)
              generalize w3.setCell ⟨(ad.add (k * 3)).block, (ad.add (k * 3)).off + 1, none⟩ _ = w4 at HA4 HB4 r0 bx ⊢
              have b2 : w4.cell? ⟨wr.heap.size, 2, none⟩ = some (.int .i64 x2) := bx 2
              obtain ⟨-, -, y2⟩ := row_cellsF HA4.out.drew (ad := ad) (n := L.length) (c := c) (l := fs1.set k (x0, (A3, m, c3), x2)) (by simp) k (x := (x0, (A3, m, c3), x2)) (by rw [List.getElem?_set_self (by have := HF1.out.1; rw [mid_length] at this; omega)])
              dsimp only at y2
              obtain ⟨-, put2, fz⟩ := row_putF HA4.out.drew k (x := (x0, (A3, m, c3), x2)) (by rw [List.getElem?_set_self (by have := HF1.out.1; rw [mid_length] at this; omega)])
              dsimp only at put2
              obtain ⟨hA5, hB5⟩ := put2 (m : Int)
              rw [List.set_set] at hA5
              have HA5 : Aside0 (Has B (w4.drew.setCell ⟨(ad.add (k * 3)).block, (ad.add (k * 3)).off + 2, none⟩ (.int .i64 (m : Int))) (refB q (.slice (some ad) L.length c) left acts :: rowF (.slice (some ad) L.length c) (fs1.set k (x0, (A3, m, c3), (m : Int))) :: ((rowB (.slice A3 m c3) ys :: boxT wr.heap.size #[.string x0, .slice A' x1.length c', .int .i64 x2] 56 :: Ns) ++ Ts))) := ⟨hA5.perm ((List.perm_append_comm (l₁ := [_, _, _]) (l₂ := [_])).append_right _)⟩
              have HB5 := Aside0.mk ((HB4.out.trans (below_drew (Below.refl _ _))).trans hB5)
              have fz2 := fz ((ad.add (k * 3)).off + 2)
              have HF5 : Aside0 (FsOk (midF keep L (k + 1)) (fs1.set k (x0, (A3, m, c3), (m : Int))) ((rowB (.slice A3 m c3) ys :: boxT wr.heap.size #[.string x0, .slice A' x1.length c', .int .i64 x2] 56 :: Ns) ++ Ts)) := ⟨by
                rw [HM1.out]
                have := (HF1.out.more (Us := rowB (.slice A3 m c3) ys :: boxT wr.heap.size #[.string x0, .slice A' x1.length c', .int .i64 x2] 56 :: (Ns ++ Ts)) fun T hT => List.mem_cons_of_mem _ (List.mem_cons_of_mem _ hT)).set k (x := ⟨x0, ys, (m : Int)⟩) (A := A3) (c := c3) (by rw [HYL.out.1]; exact List.mem_cons_self ..)
                rw [HYL.out.1] at this
                exact this⟩
              clear bx put2 fz hA5 hB5 HA4 HB4 HE HYC HB2
              go_wp2_with fail
              refine start_ (n := 12) (S := fun w' => w'.cell? ⟨q, 0, none⟩ = some (.slice (some ad) L.length c) ∧ w'.cell? ⟨wr.heap.size, 2, none⟩ = some (.int .i64 x2)) (ds := [11]) #[false, false, false, false, false, false, false, false, false, false, false, false] (by kernel_rfl) rfl rfl ⟨r0, b2⟩ (fun hHeld => ?_)
              refine pure_ (i := 0) (N := some 77) (v := ?_) (a' := ?_) #[true, false, false, false, false, false, false, false, false, false, false, false] rfl rfl (by kernel_rfl) (fun _ _ _ h => h) (Or.inl ⟨by rfl, ?_⟩) ?_ ?_
              rotate_left
              · intro w'
                go_simp
                with_reducible rfl
              rotate_left
              · simp only [Act.put, List.setIfInBounds_toArray, List.set_cons_zero, List.set_cons_succ, i64_w, i32_w]
                rfl
              refine pure_ (i := 1) (N := some 78) (v := ?_) (a' := ?_) #[true, true, false, false, false, false, false, false, false, false, false, false] rfl rfl (by kernel_rfl) (fun _ _ _ h => h) (Or.inl ⟨by rfl, ?_⟩) ?_ ?_
              rotate_left
              · intro w'
                go_simp
                with_reducible rfl
              rotate_left
              · simp only [Act.put, List.setIfInBounds_toArray, List.set_cons_zero, List.set_cons_succ, i64_w, i32_w]
                rfl
              refine pure_ (i := 2) (N := some 79) (v := ?_) (a' := ?_) #[true, true, true, false, false, false, false, false, false, false, false, false] rfl rfl (by kernel_rfl) (fun _ _ _ h => h) (Or.inl ⟨by rfl, ?_⟩) ?_ ?_
              rotate_left
              · intro w'
                go_simp
                with_reducible rfl
              rotate_left
              · simp only [Act.put, List.setIfInBounds_toArray, List.set_cons_zero, List.set_cons_succ, i64_w, i32_w]
                rfl
              refine pure_ (i := 4) (N := some 81) (v := ?_) (a' := ?_) #[true, true, true, false, true, false, false, false, false, false, false, false] rfl rfl (by kernel_rfl) (fun _ _ _ h => h) (Or.inl ⟨by rfl, ?_⟩) ?_ ?_
              rotate_left
              · intro w'
                go_simp
                with_reducible rfl
              rotate_left
              · simp only [Act.put, List.setIfInBounds_toArray, List.set_cons_zero, List.set_cons_succ, i64_w, i32_w]
                rfl
              refine pure_ (i := 5) (N := some 82) (v := ?_) (a' := ?_) #[true, true, true, false, true, true, false, false, false, false, false, false] rfl rfl (by kernel_rfl) (fun _ _ _ h => h) (Or.inl ⟨by rfl, ?_⟩) ?_ ?_
              rotate_left
              · intro w'
                go_simp
                with_reducible rfl
              rotate_left
              · simp only [Act.put, List.setIfInBounds_toArray, List.set_cons_zero, List.set_cons_succ, i64_w, i32_w]
                rfl
              refine pure_ (i := 7) (N := some 84) (v := ?_) (a' := ?_) #[true, true, true, false, true, true, false, true, false, false, false, false] rfl rfl (by kernel_rfl) (fun _ _ _ h => h) (Or.inl ⟨by rfl, ?_⟩) ?_ ?_
              rotate_left
              · intro w'
                go_simp
                with_reducible rfl
              rotate_left
              · simp only [Act.put, List.setIfInBounds_toArray, List.set_cons_zero, List.set_cons_succ, i64_w, i32_w]
                rfl
              refine take_ (i := 3) (N := some 80) (v := ?_) (a' := ?_) #[true, true, true, true, true, true, false, true, false, false, false, false] rfl rfl (by kernel_rfl) (fun _ _ _ h => h) (Or.inl ⟨by rfl, ?_⟩) hHeld ?_ ?_
              rotate_left
              · rintro w' ⟨s0, s1⟩
                go_simp
                with_reducible rfl
              rotate_left
              · simp only [Act.put, List.setIfInBounds_toArray, List.set_cons_zero, List.set_cons_succ, i64_w, i32_w]
                rfl
              refine take_ (i := 6) (N := some 83) (v := ?_) (a' := ?_) #[true, true, true, true, true, true, true, true, false, false, false, false] rfl rfl (by kernel_rfl) (fun _ _ _ h => h) (Or.inl ⟨by rfl, ?_⟩) hHeld ?_ ?_
              rotate_left
              · rintro w' ⟨s0, s1⟩
                go_simp
                with_reducible rfl
              rotate_left
              · simp only [Act.put, List.setIfInBounds_toArray, List.set_cons_zero, List.set_cons_succ, i64_w, i32_w]
                rfl
              refine pure_ (i := 8) (N := some 85) (v := ?_) (a' := ?_) #[true, true, true, true, true, true, true, true, true, false, false, false] rfl rfl (by kernel_rfl) (fun _ _ _ h => h) (Or.inl ⟨by rfl, ?_⟩) ?_ ?_
              rotate_left
              · intro w'
                go_simp
                with_reducible rfl
              rotate_left
              · simp only [Act.put, List.setIfInBounds_toArray, List.set_cons_zero, List.set_cons_succ, i64_w, i32_w]
                rfl
              refine pure_ (i := 9) (N := some 86) (v := ?_) (a' := ?_) #[true, true, true, true, true, true, true, true, true, true, false, false] rfl rfl (by kernel_rfl) (fun _ _ _ h => h) (Or.inl ⟨by rfl, ?_⟩) ?_ ?_
              rotate_left
              · intro w'
                go_simp
                with_reducible rfl
              rotate_left
              · simp only [Act.put, List.setIfInBounds_toArray, List.set_cons_zero, List.set_cons_succ, i64_w, i32_w]
                rfl
              refine pure_ (i := 10) (N := some 87) (v := ?_) (a' := ?_) #[true, true, true, true, true, true, true, true, true, true, true, false] rfl rfl (by kernel_rfl) (fun _ _ _ h => h) (Or.inl ⟨by rfl, ?_⟩) ?_ ?_
              rotate_left
              · intro w'
                go_simp
                with_reducible rfl
              rotate_left
              · simp only [Act.put, List.setIfInBounds_toArray, List.set_cons_zero, List.set_cons_succ, i64_w, i32_w]
                rfl
              refine last_ (i := 11) (N := none) #[true, true, true, true, true, true, true, true, true, true, true, true] rfl rfl (by kernel_rfl) (by decide) (fun K hK => ?_)
              refine skip_ (w1 := ?_) (by rfl) rfl ?_ ?_
              rotate_left
              · go_simp
                rfl
              refine hK.out _ _ ?_
              clear hK K
              refine done_ (by kernel_rfl) ?_

              clear r0 b2 fz2 y2
              go_wp2_with fail
              go_roundw
              case rel => exact ⟨k + 1, _, _, by first | rfl | rw [ek], by rw [HM2.out]; first | rfl | rw [en], by omega, HF5, HA5, HB5⟩
              case measure => first | (simp [intOf]; omega) | (rw [ek]; simp [intOf]; omega)
            · have d5 : decide (y > t) = false := decide_eq_false hyt
              rw [if_neg hyt] at hmo
              have hM := hmo
              clear hmo
              have HMM : Aside0 (moreI keep nn ⟨x0, x1, x2⟩ = y) := ⟨hM⟩
              have e6 : wrap64 (x2 + y) = (m : Int) := by rw [← hM, hm]; exact em
              have hbd := hbx.drew
              obtain ⟨r0, -, -, -⟩ := ref_cells hbd (q := q) (v := .slice (some ad) L.length c) (left := left) (acts := acts) (by simp)
              obtain ⟨bx, -, -, -⟩ := hbd.box_cell (b := wr.heap.size) (cs := #[.string x0, .slice A' x1.length c', .int .i64 x2]) (t := 56) (by simp)
              have b1 : (wr.alloc (.cells #[.string x0, .slice A' x1.length c', .int .i64 x2] 56)).drew.cell? ⟨wr.heap.size, 1, none⟩ = some (.slice A' x1.length c') := bx 1
              have b2 : (wr.alloc (.cells #[.string x0, .slice A' x1.length c', .int .i64 x2] 56)).drew.cell? ⟨wr.heap.size, 2, none⟩ = some (.int .i64 x2) := bx 2
              have HE := lit_rowB0 hbd
              rw [show (wr.alloc (.cells #[.string x0, .slice A' x1.length c', .int .i64 x2] 56)).drew.heap.size = wr.heap.size + 1 from World.size_alloc _ _] at HE
              have HE := Aside0.mk HE
              have HYC : Aside0 (Kd.C kB ((wr.alloc (.cells #[.string x0, .slice A' x1.length c', .int .i64 x2] 56)).drew.alloc (.cells #[] 5)) A' ys.length ys) := ⟨Kd.C_alloc (Kd.C_below HYC0.out (below_drew ((Below.refl _ wr).alloc (Nat.le_refl _) _))) _⟩
              have HB2 := Aside0.mk (((below_drew HB1.out)).alloc (show B ≤ (wr.alloc (.cells #[.string x0, .slice A' x1.length c', .int .i64 x2] 56)).drew.heap.size from hbd.size) (.cells #[] 5))
              clear hbd bx hM hbx HB1 HA HB HYC0 hm hmle s1 s2 ht
              go_wp2_with fail
              refine start_ (n := 17) (S := fun w' => w'.cell? ⟨q, 0, none⟩ = some (.slice (some ad) L.length c) ∧ w'.cell? ⟨wr.heap.size, 1, none⟩ = some (.slice A' x1.length c') ∧ w'.cell? ⟨wr.heap.size, 2, none⟩ = some (.int .i64 x2)) (ds := [16]) #[false, false, false, false, false, false, false, false, false, false, false, false, false, false, false, false, false] (by kernel_rfl) rfl rfl ⟨r0, b1, b2⟩ (fun hHeld => ?_)
              refine pure_ (i := 0) (N := some 61) (v := ?_) (a' := ?_) #[true, false, false, false, false, false, false, false, false, false, false, false, false, false, false, false, false] rfl rfl (by kernel_rfl) (fun _ _ _ h => h) (Or.inl ⟨by rfl, ?_⟩) ?_ ?_
              rotate_left
              · intro w'
                go_simp
                with_reducible rfl
              rotate_left
              · simp only [Act.put, List.setIfInBounds_toArray, List.set_cons_zero, List.set_cons_succ, i64_w, i32_w]
                rfl
              refine pure_ (i := 1) (N := some 62) (v := ?_) (a' := ?_) #[true, true, false, false, false, false, false, false, false, false, false, false, false, false, false, false, false] rfl rfl (by kernel_rfl) (fun _ _ _ h => h) (Or.inl ⟨by rfl, ?_⟩) ?_ ?_
              rotate_left
              · intro w'
                go_simp
                with_reducible rfl
              rotate_left
              · simp only [Act.put, List.setIfInBounds_toArray, List.set_cons_zero, List.set_cons_succ, i64_w, i32_w]
                rfl
              refine pure_ (i := 2) (N := some 63) (v := ?_) (a' := ?_) #[true, true, true, false, false, false, false, false, false, false, false, false, false, false, false, false, false] rfl rfl (by kernel_rfl) (fun _ _ _ h => h) (Or.inl ⟨by rfl, ?_⟩) ?_ ?_
              rotate_left
              · intro w'
                go_simp
                with_reducible rfl
              rotate_left
              · simp only [Act.put, List.setIfInBounds_toArray, List.set_cons_zero, List.set_cons_succ, i64_w, i32_w]
                rfl
              refine pure_ (i := 4) (N := some 65) (v := ?_) (a' := ?_) #[true, true, true, false, true, false, false, false, false, false, false, false, false, false, false, false, false] rfl rfl (by kernel_rfl) (fun _ _ _ h => h) (Or.inl ⟨by rfl, ?_⟩) ?_ ?_
              rotate_left
              · intro w'
                go_simp
                with_reducible rfl
              rotate_left
              · simp only [Act.put, List.setIfInBounds_toArray, List.set_cons_zero, List.set_cons_succ, i64_w, i32_w]
                rfl
              refine pure_ (i := 6) (N := some 67) (v := ?_) (a' := ?_) #[true, true, true, false, true, false, true, false, false, false, false, false, false, false, false, false, false] rfl rfl (by kernel_rfl) (fun _ _ _ h => h) (Or.inl ⟨by rfl, ?_⟩) ?_ ?_
              rotate_left
              · intro w'
                go_simp
                with_reducible rfl
              rotate_left
              · simp only [Act.put, List.setIfInBounds_toArray, List.set_cons_zero, List.set_cons_succ, i64_w, i32_w]
                rfl
              refine pure_ (i := 8) (N := some 69) (v := ?_) (a' := ?_) #[true, true, true, false, true, false, true, false, true, false, false, false, false, false, false, false, false] rfl rfl (by kernel_rfl) (fun _ _ _ h => h) (Or.inl ⟨by rfl, ?_⟩) ?_ ?_
              rotate_left
              · intro w'
                go_simp
                with_reducible rfl
              rotate_left
              · simp only [Act.put, List.setIfInBounds_toArray, List.set_cons_zero, List.set_cons_succ, i64_w, i32_w]
                rfl
              refine pure_ (i := 10) (N := some 71) (v := ?_) (a' := ?_) #[true, true, true, false, true, false, true, false, true, false, true, false, false, false, false, false, false] rfl rfl (by kernel_rfl) (fun _ _ _ h => h) (Or.inl ⟨by rfl, ?_⟩) ?_ ?_
              rotate_left
              · intro w'
                go_simp
                with_reducible rfl
              rotate_left
              · simp only [Act.put, List.setIfInBounds_toArray, List.set_cons_zero, List.set_cons_succ, i64_w, i32_w]
                rfl
              refine take_ (i := 3) (N := some 64) (v := ?_) (a' := ?_) #[true, true, true, true, true, false, true, false, true, false, true, false, false, false, false, false, false] rfl rfl (by kernel_rfl) (fun _ _ _ h => h) (Or.inl ⟨by rfl, ?_⟩) hHeld ?_ ?_
              rotate_left
              · rintro w' ⟨s0, s1, s2⟩
                go_simp
                with_reducible rfl
              rotate_left
              · simp only [Act.put, List.setIfInBounds_toArray, List.set_cons_zero, List.set_cons_succ, i64_w, i32_w]
                rfl
              refine take_ (i := 7) (N := some 68) (v := ?_) (a' := ?_) #[true, true, true, true, true, false, true, true, true, false, true, false, false, false, false, false, false] rfl rfl (by kernel_rfl) (fun _ _ _ h => h) (Or.inl ⟨by rfl, ?_⟩) hHeld ?_ ?_
              rotate_left
              · rintro w' ⟨s0, s1, s2⟩
                go_simp
                with_reducible rfl
              rotate_left
              · simp only [Act.put, List.setIfInBounds_toArray, List.set_cons_zero, List.set_cons_succ, i64_w, i32_w]
                rfl
              refine take_ (i := 9) (N := some 70) (v := ?_) (a' := ?_) #[true, true, true, true, true, false, true, true, true, true, true, false, false, false, false, false, false] rfl rfl (by kernel_rfl) (fun _ _ _ h => h) (Or.inl ⟨by rfl, ?_⟩) hHeld ?_ ?_
              rotate_left
              · rintro w' ⟨s0, s1, s2⟩
                go_simp
                with_reducible rfl
              rotate_left
              · simp only [Act.put, List.setIfInBounds_toArray, List.set_cons_zero, List.set_cons_succ, i64_w, i32_w]
                rfl
              refine pure_ (i := 11) (N := some 72) (v := ?_) (a' := ?_) #[true, true, true, true, true, false, true, true, true, true, true, true, false, false, false, false, false] rfl rfl (by kernel_rfl) (fun _ _ _ h => h) (Or.inl ⟨by rfl, ?_⟩) ?_ ?_
              rotate_left
              · intro w'
                go_simp
                with_reducible rfl
              rotate_left
              · simp only [Act.put, List.setIfInBounds_toArray, List.set_cons_zero, List.set_cons_succ, i64_w, i32_w]
                rfl
              refine pure_ (i := 12) (N := some 73) (v := ?_) (a' := ?_) #[true, true, true, true, true, false, true, true, true, true, true, true, true, false, false, false, false] rfl rfl (by kernel_rfl) (fun _ _ _ h => h) (Or.inl ⟨by rfl, ?_⟩) ?_ ?_
              rotate_left
              · intro w'
                go_simp
                with_reducible rfl
              rotate_left
              · simp only [Act.put, List.setIfInBounds_toArray, List.set_cons_zero, List.set_cons_succ, i64_w, i32_w]
                rfl
              refine one_ (i := 5) (N := some 66) #[true, true, true, true, true, true, true, true, true, true, true, true, true, false, false, false, false] rfl rfl (by kernel_rfl) (by decide) (fun K hK => ?_)
              refine value_ (w1 := ?_) (v := ?_) (by rfl) rfl ?_ ?_
              rotate_left 2
              · go_simp
                constructor
                · rfl
                · rfl
              refine hK.out _ _ ⟨cell_al _ r0, cell_al _ b1, cell_al _ b2⟩ (fun hHeld => ?_)
              clear hK K
              refine norm_ (a' := ?_) ?_ ?_
              rotate_left
              · show Act.put _ (some 66) _ = _
                simp only [Act.put, List.setIfInBounds_toArray, List.set_cons_zero, List.set_cons_succ, i64_w, i32_w]
                rfl
              refine one_ (i := 13) (N := some 74) #[true, true, true, true, true, true, true, true, true, true, true, true, true, true, false, false, false] rfl rfl (by kernel_rfl) (by decide) (fun K hK => ?_)
              refine app_rows_step kB HE.out (by rfl) (.tmp 66) (.tmp 73) 23 (.int .u8 0) 1 (by rfl) Try.underlying23 inf5 rfl (by decide) (by decide) A' c' (by rfl) (by rw [HYL.out.1]; rfl) HYC.out (fun x cs hx => mk_u8 hx) (by show (0 + ys.length) * 1 ≤ 140737488355328; have := HYL.out.1; have := HYL.out.2; omega) ?_
              intro v3 w3 hA3 hB3
              have hA3' : Has B w3 (rowB v3 ys :: boxT wr.heap.size #[.string x0, .slice A' x1.length c', .int .i64 x2] 56 :: refB q (.slice (some ad) L.length c) left acts :: rowF (.slice (some ad) L.length c) fs1 :: (Ns ++ Ts)) := hA3
              obtain ⟨A3, c3, rfl, -, -⟩ := hA3'.reads (d := kB) (e := 5) (v := v3) (xs := ys) (by simp)
              obtain ⟨s0, -, -, -⟩ := ref_cells hA3' (q := q) (v := .slice (some ad) L.length c) (left := left) (acts := acts) (by simp)
              obtain ⟨bx, -, -, -⟩ := hA3'.box_cell (b := wr.heap.size) (cs := #[.string x0, .slice A' x1.length c', .int .i64 x2]) (t := 56) (by simp)
              have s1 : w3.cell? ⟨wr.heap.size, 1, none⟩ = some (.slice A' x1.length c') := bx 1
              have s2 : w3.cell? ⟨wr.heap.size, 2, none⟩ = some (.int .i64 x2) := bx 2
              obtain ⟨-, y1, -⟩ := row_cellsF hA3' (ad := ad) (n := L.length) (c := c) (l := fs1) (by simp) k HXX.out
              dsimp only at y1
              obtain ⟨put1, -, fz⟩ := row_putF (hA3'.perm ((List.perm_append_comm (l₁ := [_, _, _]) (l₂ := [_])).append_right _)) k HXX.out
              dsimp only at put1
              obtain ⟨hA4, hB4⟩ := put1 (A3, ys.length, c3)
              dsimp only at hA4 hB4
              have HA4 := Aside0.mk hA4
              have HB4 := Aside0.mk ((HB2.out.trans hB3).trans hB4)
              have fz1 := fz ((ad.add (k * 3)).off + 1)
              clear hA3 hA3' hB3 bx put1 fz hA4 hB4
              refine hK.out _ _ ⟨s0, s1, s2⟩ (fun hHeld => ?_)
              clear hK K
              refine norm_ (a' := ?_) ?_ ?_
              rotate_left
              · show Act.put _ (some 74) _ = _
                simp only [Act.put, List.setIfInBounds_toArray, List.set_cons_zero, List.set_cons_succ, i64_w, i32_w]
                rfl
              refine pure_ (i := 14) (N := some 75) (v := ?_) (a' := ?_) #[true, true, true, true, true, true, true, true, true, true, true, true, true, true, true, false, false] rfl rfl (by kernel_rfl) (fun _ _ _ h => h) (Or.inl ⟨by rfl, ?_⟩) ?_ ?_
              rotate_left
              · intro w'
                go_simp
                with_reducible rfl
              rotate_left
              · simp only [Act.put, List.setIfInBounds_toArray, List.set_cons_zero, List.set_cons_succ, i64_w, i32_w]
                rfl
              refine pure_ (i := 15) (N := some 76) (v := ?_) (a' := ?_) #[true, true, true, true, true, true, true, true, true, true, true, true, true, true, true, true, false] rfl rfl (by kernel_rfl) (fun _ _ _ h => h) (Or.inl ⟨by rfl, ?_⟩) ?_ ?_
              rotate_left
              · intro w'
                go_simp
                with_reducible rfl
              rotate_left
              · simp only [Act.put, List.setIfInBounds_toArray, List.set_cons_zero, List.set_cons_succ, i64_w, i32_w]
                rfl
              refine last_ (i := 16) (N := none) #[true, true, true, true, true, true, true, true, true, true, true, true, true, true, true, true, true] rfl rfl (by kernel_rfl) (by decide) (fun K hK => ?_)
              refine skip_ (w1 := ?_) (by rfl) rfl ?_ ?_
              rotate_left
              · go_simp
                rfl
              refine hK.out _ _ ?_
              clear hK K
              refine done_ (by kernel_rfl) ?_

              clear r0 b1 b2 s0 s1 s2 fz1 y1 q0 q1 q2 c0 c1
              rw [HYL.out.1] at HA4 HB4 ⊢
              obtain ⟨r0, -, -, -⟩ := ref_cells HA4.out (q := q) (v := .slice (some ad) L.length c) (left := left) (acts := acts) (by simp)
              obtain ⟨bx, -, -, -⟩ := HA4.out.box_cell (b := wr.heap.size) (cs := #[.string x0, .slice A' x1.length c', .int .i64 x2]) (t := 56) (by simp)
              generalize w3.setCell ⟨(ad.add (k * 3)).block, (ad.add (k * 3)).off + 1, none⟩ _ = w4 at HA4 HB4 r0 bx ⊢
              have b2 : w4.cell? ⟨wr.heap.size, 2, none⟩ = some (.int .i64 x2) := bx 2
              obtain ⟨-, -, y2⟩ := row_cellsF HA4.out.drew (ad := ad) (n := L.length) (c := c) (l := fs1.set k (x0, (A3, m, c3), x2)) (by simp) k (x := (x0, (A3, m, c3), x2)) (by rw [List.getElem?_set_self (by have := HF1.out.1; rw [mid_length] at this; omega)])
              dsimp only at y2
              obtain ⟨-, put2, fz⟩ := row_putF HA4.out.drew k (x := (x0, (A3, m, c3), x2)) (by rw [List.getElem?_set_self (by have := HF1.out.1; rw [mid_length] at this; omega)])
              dsimp only at put2
              obtain ⟨hA5, hB5⟩ := put2 (m : Int)
              rw [List.set_set] at hA5
              have HA5 : Aside0 (Has B (w4.drew.setCell ⟨(ad.add (k * 3)).block, (ad.add (k * 3)).off + 2, none⟩ (.int .i64 (m : Int))) (refB q (.slice (some ad) L.length c) left acts :: rowF (.slice (some ad) L.length c) (fs1.set k (x0, (A3, m, c3), (m : Int))) :: ((rowB (.slice A3 m c3) ys :: boxT wr.heap.size #[.string x0, .slice A' x1.length c', .int .i64 x2] 56 :: Ns) ++ Ts))) := ⟨hA5.perm ((List.perm_append_comm (l₁ := [_, _, _]) (l₂ := [_])).append_right _)⟩
              have HB5 := Aside0.mk ((HB4.out.trans (below_drew (Below.refl _ _))).trans hB5)
              have fz2 := fz ((ad.add (k * 3)).off + 2)
              have HF5 : Aside0 (FsOk (midF keep L (k + 1)) (fs1.set k (x0, (A3, m, c3), (m : Int))) ((rowB (.slice A3 m c3) ys :: boxT wr.heap.size #[.string x0, .slice A' x1.length c', .int .i64 x2] 56 :: Ns) ++ Ts)) := ⟨by
                rw [HM1.out]
                have := (HF1.out.more (Us := rowB (.slice A3 m c3) ys :: boxT wr.heap.size #[.string x0, .slice A' x1.length c', .int .i64 x2] 56 :: (Ns ++ Ts)) fun T hT => List.mem_cons_of_mem _ (List.mem_cons_of_mem _ hT)).set k (x := ⟨x0, ys, (m : Int)⟩) (A := A3) (c := c3) (by rw [HYL.out.1]; exact List.mem_cons_self ..)
                rw [HYL.out.1] at this
                exact this⟩
              clear bx put2 fz hA5 hB5 HA4 HB4 HE HYC HB2
              go_wp2_with fail
              refine start_ (n := 12) (S := fun w' => w'.cell? ⟨q, 0, none⟩ = some (.slice (some ad) L.length c) ∧ w'.cell? ⟨wr.heap.size, 2, none⟩ = some (.int .i64 x2)) (ds := [11]) #[false, false, false, false, false, false, false, false, false, false, false, false] (by kernel_rfl) rfl rfl ⟨r0, b2⟩ (fun hHeld => ?_)
              refine pure_ (i := 0) (N := some 77) (v := ?_) (a' := ?_) #[true, false, false, false, false, false, false, false, false, false, false, false] rfl rfl (by kernel_rfl) (fun _ _ _ h => h) (Or.inl ⟨by rfl, ?_⟩) ?_ ?_
              rotate_left
              · intro w'
                go_simp
                with_reducible rfl
              rotate_left
              · simp only [Act.put, List.setIfInBounds_toArray, List.set_cons_zero, List.set_cons_succ, i64_w, i32_w]
                rfl
              refine pure_ (i := 1) (N := some 78) (v := ?_) (a' := ?_) #[true, true, false, false, false, false, false, false, false, false, false, false] rfl rfl (by kernel_rfl) (fun _ _ _ h => h) (Or.inl ⟨by rfl, ?_⟩) ?_ ?_
              rotate_left
              · intro w'
                go_simp
                with_reducible rfl
              rotate_left
              · simp only [Act.put, List.setIfInBounds_toArray, List.set_cons_zero, List.set_cons_succ, i64_w, i32_w]
                rfl
              refine pure_ (i := 2) (N := some 79) (v := ?_) (a' := ?_) #[true, true, true, false, false, false, false, false, false, false, false, false] rfl rfl (by kernel_rfl) (fun _ _ _ h => h) (Or.inl ⟨by rfl, ?_⟩) ?_ ?_
              rotate_left
              · intro w'
                go_simp
                with_reducible rfl
              rotate_left
              · simp only [Act.put, List.setIfInBounds_toArray, List.set_cons_zero, List.set_cons_succ, i64_w, i32_w]
                rfl
              refine pure_ (i := 4) (N := some 81) (v := ?_) (a' := ?_) #[true, true, true, false, true, false, false, false, false, false, false, false] rfl rfl (by kernel_rfl) (fun _ _ _ h => h) (Or.inl ⟨by rfl, ?_⟩) ?_ ?_
              rotate_left
              · intro w'
                go_simp
                with_reducible rfl
              rotate_left
              · simp only [Act.put, List.setIfInBounds_toArray, List.set_cons_zero, List.set_cons_succ, i64_w, i32_w]
                rfl
              refine pure_ (i := 5) (N := some 82) (v := ?_) (a' := ?_) #[true, true, true, false, true, true, false, false, false, false, false, false] rfl rfl (by kernel_rfl) (fun _ _ _ h => h) (Or.inl ⟨by rfl, ?_⟩) ?_ ?_
              rotate_left
              · intro w'
                go_simp
                with_reducible rfl
              rotate_left
              · simp only [Act.put, List.setIfInBounds_toArray, List.set_cons_zero, List.set_cons_succ, i64_w, i32_w]
                rfl
              refine pure_ (i := 7) (N := some 84) (v := ?_) (a' := ?_) #[true, true, true, false, true, true, false, true, false, false, false, false] rfl rfl (by kernel_rfl) (fun _ _ _ h => h) (Or.inl ⟨by rfl, ?_⟩) ?_ ?_
              rotate_left
              · intro w'
                go_simp
                with_reducible rfl
              rotate_left
              · simp only [Act.put, List.setIfInBounds_toArray, List.set_cons_zero, List.set_cons_succ, i64_w, i32_w]
                rfl
              refine take_ (i := 3) (N := some 80) (v := ?_) (a' := ?_) #[true, true, true, true, true, true, false, true, false, false, false, false] rfl rfl (by kernel_rfl) (fun _ _ _ h => h) (Or.inl ⟨by rfl, ?_⟩) hHeld ?_ ?_
              rotate_left
              · rintro w' ⟨s0, s1⟩
                go_simp
                with_reducible rfl
              rotate_left
              · simp only [Act.put, List.setIfInBounds_toArray, List.set_cons_zero, List.set_cons_succ, i64_w, i32_w]
                rfl
              refine take_ (i := 6) (N := some 83) (v := ?_) (a' := ?_) #[true, true, true, true, true, true, true, true, false, false, false, false] rfl rfl (by kernel_rfl) (fun _ _ _ h => h) (Or.inl ⟨by rfl, ?_⟩) hHeld ?_ ?_
              rotate_left
              · rintro w' ⟨s0, s1⟩
                go_simp
                with_reducible rfl
              rotate_left
              · simp only [Act.put, List.setIfInBounds_toArray, List.set_cons_zero, List.set_cons_succ, i64_w, i32_w]
                rfl
              refine pure_ (i := 8) (N := some 85) (v := ?_) (a' := ?_) #[true, true, true, true, true, true, true, true, true, false, false, false] rfl rfl (by kernel_rfl) (fun _ _ _ h => h) (Or.inl ⟨by rfl, ?_⟩) ?_ ?_
              rotate_left
              · intro w'
                go_simp
                with_reducible rfl
              rotate_left
              · simp only [Act.put, List.setIfInBounds_toArray, List.set_cons_zero, List.set_cons_succ, i64_w, i32_w]
                rfl
              refine pure_ (i := 9) (N := some 86) (v := ?_) (a' := ?_) #[true, true, true, true, true, true, true, true, true, true, false, false] rfl rfl (by kernel_rfl) (fun _ _ _ h => h) (Or.inl ⟨by rfl, ?_⟩) ?_ ?_
              rotate_left
              · intro w'
                go_simp
                with_reducible rfl
              rotate_left
              · simp only [Act.put, List.setIfInBounds_toArray, List.set_cons_zero, List.set_cons_succ, i64_w, i32_w]
                rfl
              refine pure_ (i := 10) (N := some 87) (v := ?_) (a' := ?_) #[true, true, true, true, true, true, true, true, true, true, true, false] rfl rfl (by kernel_rfl) (fun _ _ _ h => h) (Or.inl ⟨by rfl, ?_⟩) ?_ ?_
              rotate_left
              · intro w'
                go_simp
                with_reducible rfl
              rotate_left
              · simp only [Act.put, List.setIfInBounds_toArray, List.set_cons_zero, List.set_cons_succ, i64_w, i32_w]
                rfl
              refine last_ (i := 11) (N := none) #[true, true, true, true, true, true, true, true, true, true, true, true] rfl rfl (by kernel_rfl) (by decide) (fun K hK => ?_)
              refine skip_ (w1 := ?_) (by rfl) rfl ?_ ?_
              rotate_left
              · go_simp
                rfl
              refine hK.out _ _ ?_
              clear hK K
              refine done_ (by kernel_rfl) ?_

              clear r0 b2 fz2 y2
              go_wp2_with fail
              go_roundw
              case rel => exact ⟨k + 1, _, _, by first | rfl | rw [ek], by rw [HM2.out]; first | rfl | rw [en], by omega, HF5, HA5, HB5⟩
              case measure => first | (simp [intOf]; omega) | (rw [ek]; simp [intOf]; omega)
          · have d4 : decide (y > 0) = false := decide_eq_false hy0
            have d5 : decide (0 > t) = false := decide_eq_false (by omega)
            have d7 : ¬ t < 0 := by omega
            rw [show (if nn < keep.length ∧ 0 < y then y else 0) = 0 from if_neg (fun z => hy0 z.2), if_neg (by omega)] at hmo
            have hM := hmo
            clear hmo
            have HMM : Aside0 (moreI keep nn ⟨x0, x1, x2⟩ = 0) := ⟨hM⟩
            have e6 : wrap64 (x2 + 0) = (m : Int) := by rw [← hM, hm]; exact em
            have e7 : wrap64 x2 = (m : Int) := by rw [← em, ← hm, hM, Int.add_zero]
            have hbd := hbx.drew
            obtain ⟨r0, -, -, -⟩ := ref_cells hbd (q := q) (v := .slice (some ad) L.length c) (left := left) (acts := acts) (by simp)
            obtain ⟨bx, -, -, -⟩ := hbd.box_cell (b := wr.heap.size) (cs := #[.string x0, .slice A' x1.length c', .int .i64 x2]) (t := 56) (by simp)
            have b1 : (wr.alloc (.cells #[.string x0, .slice A' x1.length c', .int .i64 x2] 56)).drew.cell? ⟨wr.heap.size, 1, none⟩ = some (.slice A' x1.length c') := bx 1
            have b2 : (wr.alloc (.cells #[.string x0, .slice A' x1.length c', .int .i64 x2] 56)).drew.cell? ⟨wr.heap.size, 2, none⟩ = some (.int .i64 x2) := bx 2
            have HE := lit_rowB0 hbd
            rw [show (wr.alloc (.cells #[.string x0, .slice A' x1.length c', .int .i64 x2] 56)).drew.heap.size = wr.heap.size + 1 from World.size_alloc _ _] at HE
            have HE := Aside0.mk HE
            have HYC : Aside0 (Kd.C kB ((wr.alloc (.cells #[.string x0, .slice A' x1.length c', .int .i64 x2] 56)).drew.alloc (.cells #[] 5)) A' ys.length ys) := ⟨Kd.C_alloc (Kd.C_below HYC0.out (below_drew ((Below.refl _ wr).alloc (Nat.le_refl _) _))) _⟩
            have HB2 := Aside0.mk (((below_drew HB1.out)).alloc (show B ≤ (wr.alloc (.cells #[.string x0, .slice A' x1.length c', .int .i64 x2] 56)).drew.heap.size from hbd.size) (.cells #[] 5))
            clear hbd bx hM hbx HB1 HA HB HYC0 hm hmle s1 s2 ht
            go_wp2_with fail
            refine start_ (n := 17) (S := fun w' => w'.cell? ⟨q, 0, none⟩ = some (.slice (some ad) L.length c) ∧ w'.cell? ⟨wr.heap.size, 1, none⟩ = some (.slice A' x1.length c') ∧ w'.cell? ⟨wr.heap.size, 2, none⟩ = some (.int .i64 x2)) (ds := [16]) #[false, false, false, false, false, false, false, false, false, false, false, false, false, false, false, false, false] (by kernel_rfl) rfl rfl ⟨r0, b1, b2⟩ (fun hHeld => ?_)
            refine pure_ (i := 0) (N := some 61) (v := ?_) (a' := ?_) #[true, false, false, false, false, false, false, false, false, false, false, false, false, false, false, false, false] rfl rfl (by kernel_rfl) (fun _ _ _ h => h) (Or.inl ⟨by rfl, ?_⟩) ?_ ?_
            rotate_left
            · intro w'
              go_simp
              with_reducible rfl
            rotate_left
            · simp only [Act.put, List.setIfInBounds_toArray, List.set_cons_zero, List.set_cons_succ, i64_w, i32_w]
              rfl
            refine pure_ (i := 1) (N := some 62) (v := ?_) (a' := ?_) #[true, true, false, false, false, false, false, false, false, false, false, false, false, false, false, false, false] rfl rfl (by kernel_rfl) (fun _ _ _ h => h) (Or.inl ⟨by rfl, ?_⟩) ?_ ?_
            rotate_left
            · intro w'
              go_simp
              with_reducible rfl
            rotate_left
            · simp only [Act.put, List.setIfInBounds_toArray, List.set_cons_zero, List.set_cons_succ, i64_w, i32_w]
              rfl
            refine pure_ (i := 2) (N := some 63) (v := ?_) (a' := ?_) #[true, true, true, false, false, false, false, false, false, false, false, false, false, false, false, false, false] rfl rfl (by kernel_rfl) (fun _ _ _ h => h) (Or.inl ⟨by rfl, ?_⟩) ?_ ?_
            rotate_left
            · intro w'
              go_simp
              with_reducible rfl
            rotate_left
            · simp only [Act.put, List.setIfInBounds_toArray, List.set_cons_zero, List.set_cons_succ, i64_w, i32_w]
              rfl
            refine pure_ (i := 4) (N := some 65) (v := ?_) (a' := ?_) #[true, true, true, false, true, false, false, false, false, false, false, false, false, false, false, false, false] rfl rfl (by kernel_rfl) (fun _ _ _ h => h) (Or.inl ⟨by rfl, ?_⟩) ?_ ?_
            rotate_left
            · intro w'
              go_simp
              with_reducible rfl
            rotate_left
            · simp only [Act.put, List.setIfInBounds_toArray, List.set_cons_zero, List.set_cons_succ, i64_w, i32_w]
              rfl
            refine pure_ (i := 6) (N := some 67) (v := ?_) (a' := ?_) #[true, true, true, false, true, false, true, false, false, false, false, false, false, false, false, false, false] rfl rfl (by kernel_rfl) (fun _ _ _ h => h) (Or.inl ⟨by rfl, ?_⟩) ?_ ?_
            rotate_left
            · intro w'
              go_simp
              with_reducible rfl
            rotate_left
            · simp only [Act.put, List.setIfInBounds_toArray, List.set_cons_zero, List.set_cons_succ, i64_w, i32_w]
              rfl
            refine pure_ (i := 8) (N := some 69) (v := ?_) (a' := ?_) #[true, true, true, false, true, false, true, false, true, false, false, false, false, false, false, false, false] rfl rfl (by kernel_rfl) (fun _ _ _ h => h) (Or.inl ⟨by rfl, ?_⟩) ?_ ?_
            rotate_left
            · intro w'
              go_simp
              with_reducible rfl
            rotate_left
            · simp only [Act.put, List.setIfInBounds_toArray, List.set_cons_zero, List.set_cons_succ, i64_w, i32_w]
              rfl
            refine pure_ (i := 10) (N := some 71) (v := ?_) (a' := ?_) #[true, true, true, false, true, false, true, false, true, false, true, false, false, false, false, false, false] rfl rfl (by kernel_rfl) (fun _ _ _ h => h) (Or.inl ⟨by rfl, ?_⟩) ?_ ?_
            rotate_left
            · intro w'
              go_simp
              with_reducible rfl
            rotate_left
            · simp only [Act.put, List.setIfInBounds_toArray, List.set_cons_zero, List.set_cons_succ, i64_w, i32_w]
              rfl
            refine take_ (i := 3) (N := some 64) (v := ?_) (a' := ?_) #[true, true, true, true, true, false, true, false, true, false, true, false, false, false, false, false, false] rfl rfl (by kernel_rfl) (fun _ _ _ h => h) (Or.inl ⟨by rfl, ?_⟩) hHeld ?_ ?_
            rotate_left
            · rintro w' ⟨s0, s1, s2⟩
              go_simp
              with_reducible rfl
            rotate_left
            · simp only [Act.put, List.setIfInBounds_toArray, List.set_cons_zero, List.set_cons_succ, i64_w, i32_w]
              rfl
            refine take_ (i := 7) (N := some 68) (v := ?_) (a' := ?_) #[true, true, true, true, true, false, true, true, true, false, true, false, false, false, false, false, false] rfl rfl (by kernel_rfl) (fun _ _ _ h => h) (Or.inl ⟨by rfl, ?_⟩) hHeld ?_ ?_
            rotate_left
            · rintro w' ⟨s0, s1, s2⟩
              go_simp
              with_reducible rfl
            rotate_left
            · simp only [Act.put, List.setIfInBounds_toArray, List.set_cons_zero, List.set_cons_succ, i64_w, i32_w]
              rfl
            refine take_ (i := 9) (N := some 70) (v := ?_) (a' := ?_) #[true, true, true, true, true, false, true, true, true, true, true, false, false, false, false, false, false] rfl rfl (by kernel_rfl) (fun _ _ _ h => h) (Or.inl ⟨by rfl, ?_⟩) hHeld ?_ ?_
            rotate_left
            · rintro w' ⟨s0, s1, s2⟩
              go_simp
              with_reducible rfl
            rotate_left
            · simp only [Act.put, List.setIfInBounds_toArray, List.set_cons_zero, List.set_cons_succ, i64_w, i32_w]
              rfl
            refine pure_ (i := 11) (N := some 72) (v := ?_) (a' := ?_) #[true, true, true, true, true, false, true, true, true, true, true, true, false, false, false, false, false] rfl rfl (by kernel_rfl) (fun _ _ _ h => h) (Or.inl ⟨by rfl, ?_⟩) ?_ ?_
            rotate_left
            · intro w'
              go_simp
              with_reducible rfl
            rotate_left
            · simp only [Act.put, List.setIfInBounds_toArray, List.set_cons_zero, List.set_cons_succ, i64_w, i32_w]
              rfl
            refine pure_ (i := 12) (N := some 73) (v := ?_) (a' := ?_) #[true, true, true, true, true, false, true, true, true, true, true, true, true, false, false, false, false] rfl rfl (by kernel_rfl) (fun _ _ _ h => h) (Or.inl ⟨by rfl, ?_⟩) ?_ ?_
            rotate_left
            · intro w'
              go_simp
              with_reducible rfl
            rotate_left
            · simp only [Act.put, List.setIfInBounds_toArray, List.set_cons_zero, List.set_cons_succ, i64_w, i32_w]
              rfl
            refine one_ (i := 5) (N := some 66) #[true, true, true, true, true, true, true, true, true, true, true, true, true, false, false, false, false] rfl rfl (by kernel_rfl) (by decide) (fun K hK => ?_)
            refine value_ (w1 := ?_) (v := ?_) (by rfl) rfl ?_ ?_
            rotate_left 2
            · go_simp
              constructor
              · rfl
              · rfl
            refine hK.out _ _ ⟨cell_al _ r0, cell_al _ b1, cell_al _ b2⟩ (fun hHeld => ?_)
            clear hK K
            refine norm_ (a' := ?_) ?_ ?_
            rotate_left
            · show Act.put _ (some 66) _ = _
              simp only [Act.put, List.setIfInBounds_toArray, List.set_cons_zero, List.set_cons_succ, i64_w, i32_w]
              rfl
            refine one_ (i := 13) (N := some 74) #[true, true, true, true, true, true, true, true, true, true, true, true, true, true, false, false, false] rfl rfl (by kernel_rfl) (by decide) (fun K hK => ?_)
            refine app_rows_step kB HE.out (by rfl) (.tmp 66) (.tmp 73) 23 (.int .u8 0) 1 (by rfl) Try.underlying23 inf5 rfl (by decide) (by decide) A' c' (by rfl) (by rw [HYL.out.1]; rfl) HYC.out (fun x cs hx => mk_u8 hx) (by show (0 + ys.length) * 1 ≤ 140737488355328; have := HYL.out.1; have := HYL.out.2; omega) ?_
            intro v3 w3 hA3 hB3
            have hA3' : Has B w3 (rowB v3 ys :: boxT wr.heap.size #[.string x0, .slice A' x1.length c', .int .i64 x2] 56 :: refB q (.slice (some ad) L.length c) left acts :: rowF (.slice (some ad) L.length c) fs1 :: (Ns ++ Ts)) := hA3
            obtain ⟨A3, c3, rfl, -, -⟩ := hA3'.reads (d := kB) (e := 5) (v := v3) (xs := ys) (by simp)
            obtain ⟨s0, -, -, -⟩ := ref_cells hA3' (q := q) (v := .slice (some ad) L.length c) (left := left) (acts := acts) (by simp)
            obtain ⟨bx, -, -, -⟩ := hA3'.box_cell (b := wr.heap.size) (cs := #[.string x0, .slice A' x1.length c', .int .i64 x2]) (t := 56) (by simp)
            have s1 : w3.cell? ⟨wr.heap.size, 1, none⟩ = some (.slice A' x1.length c') := bx 1
            have s2 : w3.cell? ⟨wr.heap.size, 2, none⟩ = some (.int .i64 x2) := bx 2
            obtain ⟨-, y1, -⟩ := row_cellsF hA3' (ad := ad) (n := L.length) (c := c) (l := fs1) (by simp) k HXX.out
            dsimp only at y1
            obtain ⟨put1, -, fz⟩ := row_putF (hA3'.perm ((List.perm_append_comm (l₁ := [_, _, _]) (l₂ := [_])).append_right _)) k HXX.out
            dsimp only at put1
            obtain ⟨hA4, hB4⟩ := put1 (A3, ys.length, c3)
            dsimp only at hA4 hB4
            have HA4 := Aside0.mk hA4
            have HB4 := Aside0.mk ((HB2.out.trans hB3).trans hB4)
            have fz1 := fz ((ad.add (k * 3)).off + 1)
            clear hA3 hA3' hB3 bx put1 fz hA4 hB4
            refine hK.out _ _ ⟨s0, s1, s2⟩ (fun hHeld => ?_)
            clear hK K
            refine norm_ (a' := ?_) ?_ ?_
            rotate_left
            · show Act.put _ (some 74) _ = _
              simp only [Act.put, List.setIfInBounds_toArray, List.set_cons_zero, List.set_cons_succ, i64_w, i32_w]
              rfl
            refine pure_ (i := 14) (N := some 75) (v := ?_) (a' := ?_) #[true, true, true, true, true, true, true, true, true, true, true, true, true, true, true, false, false] rfl rfl (by kernel_rfl) (fun _ _ _ h => h) (Or.inl ⟨by rfl, ?_⟩) ?_ ?_
            rotate_left
            · intro w'
              go_simp
              with_reducible rfl
            rotate_left
            · simp only [Act.put, List.setIfInBounds_toArray, List.set_cons_zero, List.set_cons_succ, i64_w, i32_w]
              rfl
            refine pure_ (i := 15) (N := some 76) (v := ?_) (a' := ?_) #[true, true, true, true, true, true, true, true, true, true, true, true, true, true, true, true, false] rfl rfl (by kernel_rfl) (fun _ _ _ h => h) (Or.inl ⟨by rfl, ?_⟩) ?_ ?_
            rotate_left
            · intro w'
              go_simp
              with_reducible rfl
            rotate_left
            · simp only [Act.put, List.setIfInBounds_toArray, List.set_cons_zero, List.set_cons_succ, i64_w, i32_w]
              rfl
            refine last_ (i := 16) (N := none) #[true, true, true, true, true, true, true, true, true, true, true, true, true, true, true, true, true] rfl rfl (by kernel_rfl) (by decide) (fun K hK => ?_)
            refine skip_ (w1 := ?_) (by rfl) rfl ?_ ?_
            rotate_left
            · go_simp
              rfl
            refine hK.out _ _ ?_
            clear hK K
            refine done_ (by kernel_rfl) ?_

            clear r0 b1 b2 s0 s1 s2 fz1 y1 q0 q1 q2 c0 c1
            rw [HYL.out.1] at HA4 HB4 ⊢
            obtain ⟨r0, -, -, -⟩ := ref_cells HA4.out (q := q) (v := .slice (some ad) L.length c) (left := left) (acts := acts) (by simp)
            obtain ⟨bx, -, -, -⟩ := HA4.out.box_cell (b := wr.heap.size) (cs := #[.string x0, .slice A' x1.length c', .int .i64 x2]) (t := 56) (by simp)
            generalize w3.setCell ⟨(ad.add (k * 3)).block, (ad.add (k * 3)).off + 1, none⟩ _ = w4 at HA4 HB4 r0 bx ⊢
            have b2 : w4.cell? ⟨wr.heap.size, 2, none⟩ = some (.int .i64 x2) := bx 2
            obtain ⟨-, -, y2⟩ := row_cellsF HA4.out.drew (ad := ad) (n := L.length) (c := c) (l := fs1.set k (x0, (A3, m, c3), x2)) (by simp) k (x := (x0, (A3, m, c3), x2)) (by rw [List.getElem?_set_self (by have := HF1.out.1; rw [mid_length] at this; omega)])
            dsimp only at y2
            obtain ⟨-, put2, fz⟩ := row_putF HA4.out.drew k (x := (x0, (A3, m, c3), x2)) (by rw [List.getElem?_set_self (by have := HF1.out.1; rw [mid_length] at this; omega)])
            dsimp only at put2
            obtain ⟨hA5, hB5⟩ := put2 (m : Int)
            rw [List.set_set] at hA5
            have HA5 : Aside0 (Has B (w4.drew.setCell ⟨(ad.add (k * 3)).block, (ad.add (k * 3)).off + 2, none⟩ (.int .i64 (m : Int))) (refB q (.slice (some ad) L.length c) left acts :: rowF (.slice (some ad) L.length c) (fs1.set k (x0, (A3, m, c3), (m : Int))) :: ((rowB (.slice A3 m c3) ys :: boxT wr.heap.size #[.string x0, .slice A' x1.length c', .int .i64 x2] 56 :: Ns) ++ Ts))) := ⟨hA5.perm ((List.perm_append_comm (l₁ := [_, _, _]) (l₂ := [_])).append_right _)⟩
            have HB5 := Aside0.mk ((HB4.out.trans (below_drew (Below.refl _ _))).trans hB5)
            have fz2 := fz ((ad.add (k * 3)).off + 2)
            have HF5 : Aside0 (FsOk (midF keep L (k + 1)) (fs1.set k (x0, (A3, m, c3), (m : Int))) ((rowB (.slice A3 m c3) ys :: boxT wr.heap.size #[.string x0, .slice A' x1.length c', .int .i64 x2] 56 :: Ns) ++ Ts)) := ⟨by
              rw [HM1.out]
              have := (HF1.out.more (Us := rowB (.slice A3 m c3) ys :: boxT wr.heap.size #[.string x0, .slice A' x1.length c', .int .i64 x2] 56 :: (Ns ++ Ts)) fun T hT => List.mem_cons_of_mem _ (List.mem_cons_of_mem _ hT)).set k (x := ⟨x0, ys, (m : Int)⟩) (A := A3) (c := c3) (by rw [HYL.out.1]; exact List.mem_cons_self ..)
              rw [HYL.out.1] at this
              exact this⟩
            clear bx put2 fz hA5 hB5 HA4 HB4 HE HYC HB2
            go_wp2_with fail
            refine start_ (n := 12) (S := fun w' => w'.cell? ⟨q, 0, none⟩ = some (.slice (some ad) L.length c) ∧ w'.cell? ⟨wr.heap.size, 2, none⟩ = some (.int .i64 x2)) (ds := [11]) #[false, false, false, false, false, false, false, false, false, false, false, false] (by kernel_rfl) rfl rfl ⟨r0, b2⟩ (fun hHeld => ?_)
            refine pure_ (i := 0) (N := some 77) (v := ?_) (a' := ?_) #[true, false, false, false, false, false, false, false, false, false, false, false] rfl rfl (by kernel_rfl) (fun _ _ _ h => h) (Or.inl ⟨by rfl, ?_⟩) ?_ ?_
            rotate_left
            · intro w'
              go_simp
              with_reducible rfl
            rotate_left
            · simp only [Act.put, List.setIfInBounds_toArray, List.set_cons_zero, List.set_cons_succ, i64_w, i32_w]
              rfl
            refine pure_ (i := 1) (N := some 78) (v := ?_) (a' := ?_) #[true, true, false, false, false, false, false, false, false, false, false, false] rfl rfl (by kernel_rfl) (fun _ _ _ h => h) (Or.inl ⟨by rfl, ?_⟩) ?_ ?_
            rotate_left
            · intro w'
              go_simp
              with_reducible rfl
            rotate_left
            · simp only [Act.put, List.setIfInBounds_toArray, List.set_cons_zero, List.set_cons_succ, i64_w, i32_w]
              rfl
            refine pure_ (i := 2) (N := some 79) (v := ?_) (a' := ?_) #[true, true, true, false, false, false, false, false, false, false, false, false] rfl rfl (by kernel_rfl) (fun _ _ _ h => h) (Or.inl ⟨by rfl, ?_⟩) ?_ ?_
            rotate_left
            · intro w'
              go_simp
              with_reducible rfl
            rotate_left
            · simp only [Act.put, List.setIfInBounds_toArray, List.set_cons_zero, List.set_cons_succ, i64_w, i32_w]
              rfl
            refine pure_ (i := 4) (N := some 81) (v := ?_) (a' := ?_) #[true, true, true, false, true, false, false, false, false, false, false, false] rfl rfl (by kernel_rfl) (fun _ _ _ h => h) (Or.inl ⟨by rfl, ?_⟩) ?_ ?_
            rotate_left
            · intro w'
              go_simp
              with_reducible rfl
            rotate_left
            · simp only [Act.put, List.setIfInBounds_toArray, List.set_cons_zero, List.set_cons_succ, i64_w, i32_w]
              rfl
            refine pure_ (i := 5) (N := some 82) (v := ?_) (a' := ?_) #[true, true, true, false, true, true, false, false, false, false, false, false] rfl rfl (by kernel_rfl) (fun _ _ _ h => h) (Or.inl ⟨by rfl, ?_⟩) ?_ ?_
            rotate_left
            · intro w'
              go_simp
              with_reducible rfl
            rotate_left
            · simp only [Act.put, List.setIfInBounds_toArray, List.set_cons_zero, List.set_cons_succ, i64_w, i32_w]
              rfl
            refine pure_ (i := 7) (N := some 84) (v := ?_) (a' := ?_) #[true, true, true, false, true, true, false, true, false, false, false, false] rfl rfl (by kernel_rfl) (fun _ _ _ h => h) (Or.inl ⟨by rfl, ?_⟩) ?_ ?_
            rotate_left
            · intro w'
              go_simp
              with_reducible rfl
            rotate_left
            · simp only [Act.put, List.setIfInBounds_toArray, List.set_cons_zero, List.set_cons_succ, i64_w, i32_w]
              rfl
            refine take_ (i := 3) (N := some 80) (v := ?_) (a' := ?_) #[true, true, true, true, true, true, false, true, false, false, false, false] rfl rfl (by kernel_rfl) (fun _ _ _ h => h) (Or.inl ⟨by rfl, ?_⟩) hHeld ?_ ?_
            rotate_left
            · rintro w' ⟨s0, s1⟩
              go_simp
              with_reducible rfl
            rotate_left
            · simp only [Act.put, List.setIfInBounds_toArray, List.set_cons_zero, List.set_cons_succ, i64_w, i32_w]
              rfl
            refine take_ (i := 6) (N := some 83) (v := ?_) (a' := ?_) #[true, true, true, true, true, true, true, true, false, false, false, false] rfl rfl (by kernel_rfl) (fun _ _ _ h => h) (Or.inl ⟨by rfl, ?_⟩) hHeld ?_ ?_
            rotate_left
            · rintro w' ⟨s0, s1⟩
              go_simp
              with_reducible rfl
            rotate_left
            · simp only [Act.put, List.setIfInBounds_toArray, List.set_cons_zero, List.set_cons_succ, i64_w, i32_w]
              rfl
            refine pure_ (i := 8) (N := some 85) (v := ?_) (a' := ?_) #[true, true, true, true, true, true, true, true, true, false, false, false] rfl rfl (by kernel_rfl) (fun _ _ _ h => h) (Or.inl ⟨by rfl, ?_⟩) ?_ ?_
            rotate_left
            · intro w'
              go_simp
              with_reducible rfl
            rotate_left
            · simp only [Act.put, List.setIfInBounds_toArray, List.set_cons_zero, List.set_cons_succ, i64_w, i32_w]
              rfl
            refine pure_ (i := 9) (N := some 86) (v := ?_) (a' := ?_) #[true, true, true, true, true, true, true, true, true, true, false, false] rfl rfl (by kernel_rfl) (fun _ _ _ h => h) (Or.inl ⟨by rfl, ?_⟩) ?_ ?_
            rotate_left
            · intro w'
              go_simp
              with_reducible rfl
            rotate_left
            · simp only [Act.put, List.setIfInBounds_toArray, List.set_cons_zero, List.set_cons_succ, i64_w, i32_w]
              rfl
            refine pure_ (i := 10) (N := some 87) (v := ?_) (a' := ?_) #[true, true, true, true, true, true, true, true, true, true, true, false] rfl rfl (by kernel_rfl) (fun _ _ _ h => h) (Or.inl ⟨by rfl, ?_⟩) ?_ ?_
            rotate_left
            · intro w'
              go_simp
              with_reducible rfl
            rotate_left
            · simp only [Act.put, List.setIfInBounds_toArray, List.set_cons_zero, List.set_cons_succ, i64_w, i32_w]
              rfl
            refine last_ (i := 11) (N := none) #[true, true, true, true, true, true, true, true, true, true, true, true] rfl rfl (by kernel_rfl) (by decide) (fun K hK => ?_)
            refine skip_ (w1 := ?_) (by rfl) rfl ?_ ?_
            rotate_left
            · go_simp
              rfl
            refine hK.out _ _ ?_
            clear hK K
            refine done_ (by kernel_rfl) ?_

            clear r0 b2 fz2 y2
            go_wp2_with fail
            go_roundw
            case rel => exact ⟨k + 1, _, _, by first | rfl | rw [ek], by rw [HM2.out]; first | rfl | rw [en], by omega, HF5, HA5, HB5⟩
            case measure => first | (simp [intOf]; omega) | (rw [ek]; simp [intOf]; omega)
        · have d3 : decide ((nn : Int) < (keep.length : Int)) = false := decide_eq_false (by omega)
          have d5 : decide (0 > t) = false := decide_eq_false (by omega)
          have d7 : ¬ t < 0 := by omega
          rw [show (if nn < keep.length ∧ 0 < y then y else 0) = 0 from if_neg (fun z => hn z.1), if_neg (by omega)] at hmo
          have hM := hmo
          clear hmo hy
          have HMM : Aside0 (moreI keep nn ⟨x0, x1, x2⟩ = 0) := ⟨hM⟩
          have e6 : wrap64 (x2 + 0) = (m : Int) := by rw [← hM, hm]; exact em
          have e7 : wrap64 x2 = (m : Int) := by rw [← em, ← hm, hM, Int.add_zero]
          have hbd := hbx.drew
          obtain ⟨r0, -, -, -⟩ := ref_cells hbd (q := q) (v := .slice (some ad) L.length c) (left := left) (acts := acts) (by simp)
          obtain ⟨bx, -, -, -⟩ := hbd.box_cell (b := wr.heap.size) (cs := #[.string x0, .slice A' x1.length c', .int .i64 x2]) (t := 56) (by simp)
          have b1 : (wr.alloc (.cells #[.string x0, .slice A' x1.length c', .int .i64 x2] 56)).drew.cell? ⟨wr.heap.size, 1, none⟩ = some (.slice A' x1.length c') := bx 1
          have b2 : (wr.alloc (.cells #[.string x0, .slice A' x1.length c', .int .i64 x2] 56)).drew.cell? ⟨wr.heap.size, 2, none⟩ = some (.int .i64 x2) := bx 2
          have HE := lit_rowB0 hbd
          rw [show (wr.alloc (.cells #[.string x0, .slice A' x1.length c', .int .i64 x2] 56)).drew.heap.size = wr.heap.size + 1 from World.size_alloc _ _] at HE
          have HE := Aside0.mk HE
          have HYC : Aside0 (Kd.C kB ((wr.alloc (.cells #[.string x0, .slice A' x1.length c', .int .i64 x2] 56)).drew.alloc (.cells #[] 5)) A' ys.length ys) := ⟨Kd.C_alloc (Kd.C_below HYC0.out (below_drew ((Below.refl _ wr).alloc (Nat.le_refl _) _))) _⟩
          have HB2 := Aside0.mk (((below_drew HB1.out)).alloc (show B ≤ (wr.alloc (.cells #[.string x0, .slice A' x1.length c', .int .i64 x2] 56)).drew.heap.size from hbd.size) (.cells #[] 5))
          clear hbd bx hM hbx HB1 HA HB HYC0 hm hmle s1 s2 ht
          go_wp2_with fail
          refine start_ (n := 17) (S := fun w' => w'.cell? ⟨q, 0, none⟩ = some (.slice (some ad) L.length c) ∧ w'.cell? ⟨wr.heap.size, 1, none⟩ = some (.slice A' x1.length c') ∧ w'.cell? ⟨wr.heap.size, 2, none⟩ = some (.int .i64 x2)) (ds := [16]) #[false, false, false, false, false, false, false, false, false, false, false, false, false, false, false, false, false] (by kernel_rfl) rfl rfl ⟨r0, b1, b2⟩ (fun hHeld => ?_)
          refine pure_ (i := 0) (N := some 61) (v := ?_) (a' := ?_) #[true, false, false, false, false, false, false, false, false, false, false, false, false, false, false, false, false] rfl rfl (by kernel_rfl) (fun _ _ _ h => h) (Or.inl ⟨by rfl, ?_⟩) ?_ ?_
          rotate_left
          · intro w'
            go_simp
            with_reducible rfl
          rotate_left
          · simp only [Act.put, List.setIfInBounds_toArray, List.set_cons_zero, List.set_cons_succ, i64_w, i32_w]
            rfl
          refine pure_ (i := 1) (N := some 62) (v := ?_) (a' := ?_) #[true, true, false, false, false, false, false, false, false, false, false, false, false, false, false, false, false] rfl rfl (by kernel_rfl) (fun _ _ _ h => h) (Or.inl ⟨by rfl, ?_⟩) ?_ ?_
          rotate_left
          · intro w'
            go_simp
            with_reducible rfl
          rotate_left
          · simp only [Act.put, List.setIfInBounds_toArray, List.set_cons_zero, List.set_cons_succ, i64_w, i32_w]
            rfl
          refine pure_ (i := 2) (N := some 63) (v := ?_) (a' := ?_) #[true, true, true, false, false, false, false, false, false, false, false, false, false, false, false, false, false] rfl rfl (by kernel_rfl) (fun _ _ _ h => h) (Or.inl ⟨by rfl, ?_⟩) ?_ ?_
          rotate_left
          · intro w'
            go_simp
            with_reducible rfl
          rotate_left
          · simp only [Act.put, List.setIfInBounds_toArray, List.set_cons_zero, List.set_cons_succ, i64_w, i32_w]
            rfl
          refine pure_ (i := 4) (N := some 65) (v := ?_) (a' := ?_) #[true, true, true, false, true, false, false, false, false, false, false, false, false, false, false, false, false] rfl rfl (by kernel_rfl) (fun _ _ _ h => h) (Or.inl ⟨by rfl, ?_⟩) ?_ ?_
          rotate_left
          · intro w'
            go_simp
            with_reducible rfl
          rotate_left
          · simp only [Act.put, List.setIfInBounds_toArray, List.set_cons_zero, List.set_cons_succ, i64_w, i32_w]
            rfl
          refine pure_ (i := 6) (N := some 67) (v := ?_) (a' := ?_) #[true, true, true, false, true, false, true, false, false, false, false, false, false, false, false, false, false] rfl rfl (by kernel_rfl) (fun _ _ _ h => h) (Or.inl ⟨by rfl, ?_⟩) ?_ ?_
          rotate_left
          · intro w'
            go_simp
            with_reducible rfl
          rotate_left
          · simp only [Act.put, List.setIfInBounds_toArray, List.set_cons_zero, List.set_cons_succ, i64_w, i32_w]
            rfl
          refine pure_ (i := 8) (N := some 69) (v := ?_) (a' := ?_) #[true, true, true, false, true, false, true, false, true, false, false, false, false, false, false, false, false] rfl rfl (by kernel_rfl) (fun _ _ _ h => h) (Or.inl ⟨by rfl, ?_⟩) ?_ ?_
          rotate_left
          · intro w'
            go_simp
            with_reducible rfl
          rotate_left
          · simp only [Act.put, List.setIfInBounds_toArray, List.set_cons_zero, List.set_cons_succ, i64_w, i32_w]
            rfl
          refine pure_ (i := 10) (N := some 71) (v := ?_) (a' := ?_) #[true, true, true, false, true, false, true, false, true, false, true, false, false, false, false, false, false] rfl rfl (by kernel_rfl) (fun _ _ _ h => h) (Or.inl ⟨by rfl, ?_⟩) ?_ ?_
          rotate_left
          · intro w'
            go_simp
            with_reducible rfl
          rotate_left
          · simp only [Act.put, List.setIfInBounds_toArray, List.set_cons_zero, List.set_cons_succ, i64_w, i32_w]
            rfl
          refine take_ (i := 3) (N := some 64) (v := ?_) (a' := ?_) #[true, true, true, true, true, false, true, false, true, false, true, false, false, false, false, false, false] rfl rfl (by kernel_rfl) (fun _ _ _ h => h) (Or.inl ⟨by rfl, ?_⟩) hHeld ?_ ?_
          rotate_left
          · rintro w' ⟨s0, s1, s2⟩
            go_simp
            with_reducible rfl
          rotate_left
          · simp only [Act.put, List.setIfInBounds_toArray, List.set_cons_zero, List.set_cons_succ, i64_w, i32_w]
            rfl
          refine take_ (i := 7) (N := some 68) (v := ?_) (a' := ?_) #[true, true, true, true, true, false, true, true, true, false, true, false, false, false, false, false, false] rfl rfl (by kernel_rfl) (fun _ _ _ h => h) (Or.inl ⟨by rfl, ?_⟩) hHeld ?_ ?_
          rotate_left
          · rintro w' ⟨s0, s1, s2⟩
            go_simp
            with_reducible rfl
          rotate_left
          · simp only [Act.put, List.setIfInBounds_toArray, List.set_cons_zero, List.set_cons_succ, i64_w, i32_w]
            rfl
          refine take_ (i := 9) (N := some 70) (v := ?_) (a' := ?_) #[true, true, true, true, true, false, true, true, true, true, true, false, false, false, false, false, false] rfl rfl (by kernel_rfl) (fun _ _ _ h => h) (Or.inl ⟨by rfl, ?_⟩) hHeld ?_ ?_
          rotate_left
          · rintro w' ⟨s0, s1, s2⟩
            go_simp
            with_reducible rfl
          rotate_left
          · simp only [Act.put, List.setIfInBounds_toArray, List.set_cons_zero, List.set_cons_succ, i64_w, i32_w]
            rfl
          refine pure_ (i := 11) (N := some 72) (v := ?_) (a' := ?_) #[true, true, true, true, true, false, true, true, true, true, true, true, false, false, false, false, false] rfl rfl (by kernel_rfl) (fun _ _ _ h => h) (Or.inl ⟨by rfl, ?_⟩) ?_ ?_
          rotate_left
          · intro w'
            go_simp
            with_reducible rfl
          rotate_left
          · simp only [Act.put, List.setIfInBounds_toArray, List.set_cons_zero, List.set_cons_succ, i64_w, i32_w]
            rfl
          refine pure_ (i := 12) (N := some 73) (v := ?_) (a' := ?_) #[true, true, true, true, true, false, true, true, true, true, true, true, true, false, false, false, false] rfl rfl (by kernel_rfl) (fun _ _ _ h => h) (Or.inl ⟨by rfl, ?_⟩) ?_ ?_
          rotate_left
          · intro w'
            go_simp
            with_reducible rfl
          rotate_left
          · simp only [Act.put, List.setIfInBounds_toArray, List.set_cons_zero, List.set_cons_succ, i64_w, i32_w]
            rfl
          refine one_ (i := 5) (N := some 66) #[true, true, true, true, true, true, true, true, true, true, true, true, true, false, false, false, false] rfl rfl (by kernel_rfl) (by decide) (fun K hK => ?_)
          refine value_ (w1 := ?_) (v := ?_) (by rfl) rfl ?_ ?_
          rotate_left 2
          · go_simp
            constructor
            · rfl
            · rfl
          refine hK.out _ _ ⟨cell_al _ r0, cell_al _ b1, cell_al _ b2⟩ (fun hHeld => ?_)
          clear hK K
          refine norm_ (a' := ?_) ?_ ?_
          rotate_left
          · show Act.put _ (some 66) _ = _
            simp only [Act.put, List.setIfInBounds_toArray, List.set_cons_zero, List.set_cons_succ, i64_w, i32_w]
            rfl
          refine one_ (i := 13) (N := some 74) #[true, true, true, true, true, true, true, true, true, true, true, true, true, true, false, false, false] rfl rfl (by kernel_rfl) (by decide) (fun K hK => ?_)
          refine app_rows_step kB HE.out (by rfl) (.tmp 66) (.tmp 73) 23 (.int .u8 0) 1 (by rfl) Try.underlying23 inf5 rfl (by decide) (by decide) A' c' (by rfl) (by rw [HYL.out.1]; rfl) HYC.out (fun x cs hx => mk_u8 hx) (by show (0 + ys.length) * 1 ≤ 140737488355328; have := HYL.out.1; have := HYL.out.2; omega) ?_
          intro v3 w3 hA3 hB3
          have hA3' : Has B w3 (rowB v3 ys :: boxT wr.heap.size #[.string x0, .slice A' x1.length c', .int .i64 x2] 56 :: refB q (.slice (some ad) L.length c) left acts :: rowF (.slice (some ad) L.length c) fs1 :: (Ns ++ Ts)) := hA3
          obtain ⟨A3, c3, rfl, -, -⟩ := hA3'.reads (d := kB) (e := 5) (v := v3) (xs := ys) (by simp)
          obtain ⟨s0, -, -, -⟩ := ref_cells hA3' (q := q) (v := .slice (some ad) L.length c) (left := left) (acts := acts) (by simp)
          obtain ⟨bx, -, -, -⟩ := hA3'.box_cell (b := wr.heap.size) (cs := #[.string x0, .slice A' x1.length c', .int .i64 x2]) (t := 56) (by simp)
          have s1 : w3.cell? ⟨wr.heap.size, 1, none⟩ = some (.slice A' x1.length c') := bx 1
          have s2 : w3.cell? ⟨wr.heap.size, 2, none⟩ = some (.int .i64 x2) := bx 2
          obtain ⟨-, y1, -⟩ := row_cellsF hA3' (ad := ad) (n := L.length) (c := c) (l := fs1) (by simp) k HXX.out
          dsimp only at y1
          obtain ⟨put1, -, fz⟩ := row_putF (hA3'.perm ((List.perm_append_comm (l₁ := [_, _, _]) (l₂ := [_])).append_right _)) k HXX.out
          dsimp only at put1
          obtain ⟨hA4, hB4⟩ := put1 (A3, ys.length, c3)
          dsimp only at hA4 hB4
          have HA4 := Aside0.mk hA4
          have HB4 := Aside0.mk ((HB2.out.trans hB3).trans hB4)
          have fz1 := fz ((ad.add (k * 3)).off + 1)
          clear hA3 hA3' hB3 bx put1 fz hA4 hB4
          refine hK.out _ _ ⟨s0, s1, s2⟩ (fun hHeld => ?_)
          clear hK K
          refine norm_ (a' := ?_) ?_ ?_
          rotate_left
          · show Act.put _ (some 74) _ = _
            simp only [Act.put, List.setIfInBounds_toArray, List.set_cons_zero, List.set_cons_succ, i64_w, i32_w]
            rfl
          refine pure_ (i := 14) (N := some 75) (v := ?_) (a' := ?_) #[true, true, true, true, true, true, true, true, true, true, true, true, true, true, true, false, false] rfl rfl (by kernel_rfl) (fun _ _ _ h => h) (Or.inl ⟨by rfl, ?_⟩) ?_ ?_
          rotate_left
          · intro w'
            go_simp
            with_reducible rfl
          rotate_left
          · simp only [Act.put, List.setIfInBounds_toArray, List.set_cons_zero, List.set_cons_succ, i64_w, i32_w]
            rfl
          refine pure_ (i := 15) (N := some 76) (v := ?_) (a' := ?_) #[true, true, true, true, true, true, true, true, true, true, true, true, true, true, true, true, false] rfl rfl (by kernel_rfl) (fun _ _ _ h => h) (Or.inl ⟨by rfl, ?_⟩) ?_ ?_
          rotate_left
          · intro w'
            go_simp
            with_reducible rfl
          rotate_left
          · simp only [Act.put, List.setIfInBounds_toArray, List.set_cons_zero, List.set_cons_succ, i64_w, i32_w]
            rfl
          refine last_ (i := 16) (N := none) #[true, true, true, true, true, true, true, true, true, true, true, true, true, true, true, true, true] rfl rfl (by kernel_rfl) (by decide) (fun K hK => ?_)
          refine skip_ (w1 := ?_) (by rfl) rfl ?_ ?_
          rotate_left
          · go_simp
            rfl
          refine hK.out _ _ ?_
          clear hK K
          refine done_ (by kernel_rfl) ?_

          clear r0 b1 b2 s0 s1 s2 fz1 y1 q0 q1 q2 c0 c1
          rw [HYL.out.1] at HA4 HB4 ⊢
          obtain ⟨r0, -, -, -⟩ := ref_cells HA4.out (q := q) (v := .slice (some ad) L.length c) (left := left) (acts := acts) (by simp)
          obtain ⟨bx, -, -, -⟩ := HA4.out.box_cell (b := wr.heap.size) (cs := #[.string x0, .slice A' x1.length c', .int .i64 x2]) (t := 56) (by simp)
          generalize w3.setCell ⟨(ad.add (k * 3)).block, (ad.add (k * 3)).off + 1, none⟩ _ = w4 at HA4 HB4 r0 bx ⊢
          have b2 : w4.cell? ⟨wr.heap.size, 2, none⟩ = some (.int .i64 x2) := bx 2
          obtain ⟨-, -, y2⟩ := row_cellsF HA4.out.drew (ad := ad) (n := L.length) (c := c) (l := fs1.set k (x0, (A3, m, c3), x2)) (by simp) k (x := (x0, (A3, m, c3), x2)) (by rw [List.getElem?_set_self (by have := HF1.out.1; rw [mid_length] at this; omega)])
          dsimp only at y2
          obtain ⟨-, put2, fz⟩ := row_putF HA4.out.drew k (x := (x0, (A3, m, c3), x2)) (by rw [List.getElem?_set_self (by have := HF1.out.1; rw [mid_length] at this; omega)])
          dsimp only at put2
          obtain ⟨hA5, hB5⟩ := put2 (m : Int)
          rw [List.set_set] at hA5
          have HA5 : Aside0 (Has B (w4.drew.setCell ⟨(ad.add (k * 3)).block, (ad.add (k * 3)).off + 2, none⟩ (.int .i64 (m : Int))) (refB q (.slice (some ad) L.length c) left acts :: rowF (.slice (some ad) L.length c) (fs1.set k (x0, (A3, m, c3), (m : Int))) :: ((rowB (.slice A3 m c3) ys :: boxT wr.heap.size #[.string x0, .slice A' x1.length c', .int .i64 x2] 56 :: Ns) ++ Ts))) := ⟨hA5.perm ((List.perm_append_comm (l₁ := [_, _, _]) (l₂ := [_])).append_right _)⟩
          have HB5 := Aside0.mk ((HB4.out.trans (below_drew (Below.refl _ _))).trans hB5)
          have fz2 := fz ((ad.add (k * 3)).off + 2)
          have HF5 : Aside0 (FsOk (midF keep L (k + 1)) (fs1.set k (x0, (A3, m, c3), (m : Int))) ((rowB (.slice A3 m c3) ys :: boxT wr.heap.size #[.string x0, .slice A' x1.length c', .int .i64 x2] 56 :: Ns) ++ Ts)) := ⟨by
            rw [HM1.out]
            have := (HF1.out.more (Us := rowB (.slice A3 m c3) ys :: boxT wr.heap.size #[.string x0, .slice A' x1.length c', .int .i64 x2] 56 :: (Ns ++ Ts)) fun T hT => List.mem_cons_of_mem _ (List.mem_cons_of_mem _ hT)).set k (x := ⟨x0, ys, (m : Int)⟩) (A := A3) (c := c3) (by rw [HYL.out.1]; exact List.mem_cons_self ..)
            rw [HYL.out.1] at this
            exact this⟩
          clear bx put2 fz hA5 hB5 HA4 HB4 HE HYC HB2
          go_wp2_with fail
          refine start_ (n := 12) (S := fun w' => w'.cell? ⟨q, 0, none⟩ = some (.slice (some ad) L.length c) ∧ w'.cell? ⟨wr.heap.size, 2, none⟩ = some (.int .i64 x2)) (ds := [11]) #[false, false, false, false, false, false, false, false, false, false, false, false] (by kernel_rfl) rfl rfl ⟨r0, b2⟩ (fun hHeld => ?_)
          refine pure_ (i := 0) (N := some 77) (v := ?_) (a' := ?_) #[true, false, false, false, false, false, false, false, false, false, false, false] rfl rfl (by kernel_rfl) (fun _ _ _ h => h) (Or.inl ⟨by rfl, ?_⟩) ?_ ?_
          rotate_left
          · intro w'
            go_simp
            with_reducible rfl
          rotate_left
          · simp only [Act.put, List.setIfInBounds_toArray, List.set_cons_zero, List.set_cons_succ, i64_w, i32_w]
            rfl
          refine pure_ (i := 1) (N := some 78) (v := ?_) (a' := ?_) #[true, true, false, false, false, false, false, false, false, false, false, false] rfl rfl (by kernel_rfl) (fun _ _ _ h => h) (Or.inl ⟨by rfl, ?_⟩) ?_ ?_
          rotate_left
          · intro w'
            go_simp
            with_reducible rfl
          rotate_left
          · simp only [Act.put, List.setIfInBounds_toArray, List.set_cons_zero, List.set_cons_succ, i64_w, i32_w]
            rfl
          refine pure_ (i := 2) (N := some 79) (v := ?_) (a' := ?_) #[true, true, true, false, false, false, false, false, false, false, false, false] rfl rfl (by kernel_rfl) (fun _ _ _ h => h) (Or.inl ⟨by rfl, ?_⟩) ?_ ?_
          rotate_left
          · intro w'
            go_simp
            with_reducible rfl
          rotate_left
          · simp only [Act.put, List.setIfInBounds_toArray, List.set_cons_zero, List.set_cons_succ, i64_w, i32_w]
            rfl
          refine pure_ (i := 4) (N := some 81) (v := ?_) (a' := ?_) #[true, true, true, false, true, false, false, false, false, false, false, false] rfl rfl (by kernel_rfl) (fun _ _ _ h => h) (Or.inl ⟨by rfl, ?_⟩) ?_ ?_
          rotate_left
          · intro w'
            go_simp
            with_reducible rfl
          rotate_left
          · simp only [Act.put, List.setIfInBounds_toArray, List.set_cons_zero, List.set_cons_succ, i64_w, i32_w]
            rfl
          refine pure_ (i := 5) (N := some 82) (v := ?_) (a' := ?_) #[true, true, true, false, true, true, false, false, false, false, false, false] rfl rfl (by kernel_rfl) (fun _ _ _ h => h) (Or.inl ⟨by rfl, ?_⟩) ?_ ?_
          rotate_left
          · intro w'
            go_simp
            with_reducible rfl
          rotate_left
          · simp only [Act.put, List.setIfInBounds_toArray, List.set_cons_zero, List.set_cons_succ, i64_w, i32_w]
            rfl
          refine pure_ (i := 7) (N := some 84) (v := ?_) (a' := ?_) #[true, true, true, false, true, true, false, true, false, false, false, false] rfl rfl (by kernel_rfl) (fun _ _ _ h => h) (Or.inl ⟨by rfl, ?_⟩) ?_ ?_
          rotate_left
          · intro w'
            go_simp
            with_reducible rfl
          rotate_left
          · simp only [Act.put, List.setIfInBounds_toArray, List.set_cons_zero, List.set_cons_succ, i64_w, i32_w]
            rfl
          refine take_ (i := 3) (N := some 80) (v := ?_) (a' := ?_) #[true, true, true, true, true, true, false, true, false, false, false, false] rfl rfl (by kernel_rfl) (fun _ _ _ h => h) (Or.inl ⟨by rfl, ?_⟩) hHeld ?_ ?_
          rotate_left
          · rintro w' ⟨s0, s1⟩
            go_simp
            with_reducible rfl
          rotate_left
          · simp only [Act.put, List.setIfInBounds_toArray, List.set_cons_zero, List.set_cons_succ, i64_w, i32_w]
            rfl
          refine take_ (i := 6) (N := some 83) (v := ?_) (a' := ?_) #[true, true, true, true, true, true, true, true, false, false, false, false] rfl rfl (by kernel_rfl) (fun _ _ _ h => h) (Or.inl ⟨by rfl, ?_⟩) hHeld ?_ ?_
          rotate_left
          · rintro w' ⟨s0, s1⟩
            go_simp
            with_reducible rfl
          rotate_left
          · simp only [Act.put, List.setIfInBounds_toArray, List.set_cons_zero, List.set_cons_succ, i64_w, i32_w]
            rfl
          refine pure_ (i := 8) (N := some 85) (v := ?_) (a' := ?_) #[true, true, true, true, true, true, true, true, true, false, false, false] rfl rfl (by kernel_rfl) (fun _ _ _ h => h) (Or.inl ⟨by rfl, ?_⟩) ?_ ?_
          rotate_left
          · intro w'
            go_simp
            with_reducible rfl
          rotate_left
          · simp only [Act.put, List.setIfInBounds_toArray, List.set_cons_zero, List.set_cons_succ, i64_w, i32_w]
            rfl
          refine pure_ (i := 9) (N := some 86) (v := ?_) (a' := ?_) #[true, true, true, true, true, true, true, true, true, true, false, false] rfl rfl (by kernel_rfl) (fun _ _ _ h => h) (Or.inl ⟨by rfl, ?_⟩) ?_ ?_
          rotate_left
          · intro w'
            go_simp
            with_reducible rfl
          rotate_left
          · simp only [Act.put, List.setIfInBounds_toArray, List.set_cons_zero, List.set_cons_succ, i64_w, i32_w]
            rfl
          refine pure_ (i := 10) (N := some 87) (v := ?_) (a' := ?_) #[true, true, true, true, true, true, true, true, true, true, true, false] rfl rfl (by kernel_rfl) (fun _ _ _ h => h) (Or.inl ⟨by rfl, ?_⟩) ?_ ?_
          rotate_left
          · intro w'
            go_simp
            with_reducible rfl
          rotate_left
          · simp only [Act.put, List.setIfInBounds_toArray, List.set_cons_zero, List.set_cons_succ, i64_w, i32_w]
            rfl
          refine last_ (i := 11) (N := none) #[true, true, true, true, true, true, true, true, true, true, true, true] rfl rfl (by kernel_rfl) (by decide) (fun K hK => ?_)
          refine skip_ (w1 := ?_) (by rfl) rfl ?_ ?_
          rotate_left
          · go_simp
            rfl
          refine hK.out _ _ ?_
          clear hK K
          refine done_ (by kernel_rfl) ?_

          clear r0 b2 fz2 y2
          go_wp2_with fail
          go_roundw
          case rel => exact ⟨k + 1, _, _, by first | rfl | rw [ek], by rw [HM2.out]; first | rfl | rw [en], by omega, HF5, HA5, HB5⟩
          case measure => first | (simp [intOf]; omega) | (rw [ek]; simp [intOf]; omega)
    · have d1 : decide ((k : Int) < (L.length : Int)) = false := decide_eq_false (by omega)
      obtain rfl : k = L.length := by omega
      rw [mid_end] at HF1
      obtain ⟨hA2, hB2⟩ := (ref_set HA.out).2.1 (-1)
      have HA2 := Aside0.mk hA2
      have HB2 := Aside0.mk (HB.out.trans hB2)
      have f1 := cf 1
      clear hA2 hB2 cf
      go_wp2_with fail
      go_end0
      exact ⟨Ns, rfl, ⟨.slice A L.length c, fs1, HA2.out, HF1.out⟩, HB2.out⟩
end Go.Proofs.Ytibnakpefjjoiaa.Fs
namespace Go.Proofs.Ytibnakpefjjoiaa.Fs
open Go.RowKit Go.Proofs.YtibnakpefjjoiaaW.PrintWords Go.Proofs.YtibnakpefjjoiaaW.PrintLast Go.Proofs.YtibnakpefjjoiaaW.PrintMore Go.Proofs.Ytibnakpefjjoiaa.Q Go.Proofs.Ytibnakpefjjoiaa.Own
set_option linter.unusedVariables false
set_option linter.unusedSimpArgs false
attribute [local go_sem ↓] Go.wp_at_zero Go.wp_at_succ

/-- A thing that holds a block of cells that are no row of bytes. -/
def Marked (X : Th) : Prop := ∀ w F, X.on w F → ∃ b cs t, F b ∧ w.heap[b]? = some (.cells cs t (0, 0)) ∧ t ≠ 5
theorem row_not {X : Th} (hX : Marked X) {w : World} {F : Nat → Prop} (h : X.on w F) (v : Value) (xs : List Int) : rowB v xs ≠ X := by
  intro e
  subst e
  have h' : Kd.R kB 5 w 0 F v xs := h
  have h2 : (rowB v xs).on w (fun k => v.ownBlock = some k) := ⟨fun k hk => hk, h'.2.imp_ fun p c hp => hp⟩
  obtain ⟨b, cs, t, hb, hh, ht⟩ := hX w _ h2
  obtain ⟨inner, ho, -⟩ := h'.2
  obtain ⟨cells, hc⟩ := own_typed ho b hb
  rw [hh] at hc
  cases hc
  exact ht rfl
theorem FsOk.drop {L : List SF} {fs : List FH} {As Bs : List Th} {X : Th} (h : FsOk L fs (As ++ X :: Bs)) (hX : Marked X) {w : World} {F : Nat → Prop} (hon : X.on w F) : FsOk L fs (As ++ Bs) := ⟨h.1, fun i hi => by
  obtain ⟨A, c, e, hm⟩ := h.2 i hi
  refine ⟨A, c, e, ?_⟩
  rcases List.mem_append.1 hm with q | q
  · exact List.mem_append_left _ q
  · rcases List.mem_cons.1 q with q | q
    · exact absurd q (row_not hX hon _ _)
    · exact List.mem_append_right _ q⟩
theorem marked_sto (p : Nat) (l a : Int) (L : List SF) (o : Option Op) : Marked (storeT p l a L o) := fun w F h => by
  obtain ⟨h0, mb, D, h1, h2, h3, -⟩ := h
  exact ⟨p, _, _, h0, h3, by decide⟩
/-- Two things as one. -/
def pairT (T U : Th) : Th where
  on w F := ∃ F1 F2, T.on w F1 ∧ U.on w F2 ∧ (∀ k, F1 k → F k ∧ ¬ F2 k) ∧ ∀ k, F2 k → F k
  loc := by
    rintro w w' F ⟨F1, F2, h1, h2, h3, h4⟩ hm
    exact ⟨F1, F2, T.loc h1 (fun k hk => hm k (h3 k hk).1), U.loc h2 (fun k hk => hm k (h4 k hk)), h3, h4⟩
theorem marked_pair {b : Nat} {cs : Array Value} {t : TypeId} (ht : t ≠ 5) (U : Th) : Marked (pairT (boxT b cs t) U) := fun w F h => by
  obtain ⟨F1, F2, h1, h2, h3, h4⟩ := h
  exact ⟨b, cs, t, (h3 b h1.1).1, h1.2, ht⟩
theorem has_pair {B : Nat} {w : World} {T U : Th} {Ts : List Th} (h : Has B w (T :: U :: Ts)) : Has B w (pairT T U :: Ts) := by
  obtain ⟨h0, F1, t1, f1, F2, t2, f2, rest⟩ := h
  exact ⟨h0, fun k => F1 k ∨ F2 k, ⟨F1, F2, t1, t2, fun k hk => ⟨.inl hk, fun q => (f2 k q).1.2 hk⟩, fun k hk => .inr hk⟩, fun k hk => ⟨trivial, hk.elim (fun q => (f1 k q).2) (fun q => (f2 k q).2)⟩, rest.grow fun k hk _ => ⟨trivial, fun q => q.elim hk.1.2 hk.2⟩⟩
theorem has_unpair {B : Nat} {w : World} {T U : Th} {Ts : List Th} (h : Has B w (pairT T U :: Ts)) : Has B w (T :: U :: Ts) := by
  obtain ⟨h0, F, ⟨F1, F2, t1, t2, h3, h4⟩, f, rest⟩ := h
  exact ⟨h0, F1, t1, fun k hk => ⟨trivial, (f k (h3 k hk).1).2⟩, F2, t2, fun k hk => ⟨⟨trivial, fun q => (h3 k q).2 hk⟩, (f k (h4 k hk)).2⟩, rest.grow fun k hk _ => ⟨⟨trivial, fun q => hk.2 (h3 k q).1⟩, fun q => hk.2 (h4 k q)⟩⟩
theorem ref_in {B : Nat} {w : World} {q : Nat} {v : Value} {st : Stt} {fs : List FH} {T : Th} {Ns : List Th} (h : Has B w (T :: refB q v st.left st.acts :: rowF v fs :: Ns)) (hf : FsOk st.L fs Ns) : RefHas B w q st (T :: Ns) :=
  ⟨v, fs, h.perm ((List.perm_append_comm (l₁ := [_]) (l₂ := [_, _])).append_right _), hf.more fun T hT => List.mem_cons_of_mem _ hT⟩
theorem ref_out {B : Nat} {w : World} {q : Nat} {st : Stt} {T : Th} {Ms Ns : List Th} (h : RefHas B w q st (Ms ++ T :: Ns)) (hT : Marked T) : ∃ v fs, Has B w (T :: refB q v st.left st.acts :: rowF v fs :: (Ms ++ Ns)) ∧ FsOk st.L fs (Ms ++ Ns) := by
  obtain ⟨v, fs, hA, hf⟩ := h
  have hA2 : Has B w (T :: refB q v st.left st.acts :: rowF v fs :: (Ms ++ Ns)) := hA.perm (List.perm_middle (l₁ := refB q v st.left st.acts :: rowF v fs :: Ms))
  obtain ⟨F, hon, -⟩ := hA2.head
  exact ⟨v, fs, hA2, hf.drop hT hon⟩
/-- Both stores, as they ought to be. -/
def Both (B : Nat) (w : World) (p q : Nat) (st : Stt) : Prop := ∃ v fs Ns, Has B w (stoT p st :: refB q v st.left st.acts :: rowF v fs :: Ns) ∧ FsOk st.L fs Ns
/-- What a call makes of a store. -/
def actT (st : Stt) (x : SA) : Stt :=
  if x.f0.tmod 10 = 4 then (syncS st x.f1).2 else if x.f0.tmod 10 = 5 then (truncS st x.f1 x.f4).2 else if x.f0.tmod 10 = 6 then (renameS st x.f1 x.f2).2 else if x.f0.tmod 10 = 7 then (removeS st x.f1).2
  else if x.f0.tmod 10 = 8 then ⟨maxI x.f4 (-1), st.acts, st.L⟩ else if x.f0.tmod 10 = 9 then crashS st x.f5 else (appendS st x.f1 x.f3).2
theorem fine_actT {st : Stt} {k : Nat} (h : Fine st k) (x : SA) (hx : x.f4 ≤ 9223372036854775807) : Fine (actT st x) (k + 1) := by
  unfold actT
  split
  · exact fine_sync h _
  split
  · exact fine_trunc h _ _
  split
  · exact fine_rename h _ _
  split
  · exact fine_remove h _
  split
  · exact (fine_power h hx).more (by omega)
  split
  · exact (fine_crash h _).more (by omega)
  · exact fine_append h _ _
def DoesPost (B : Nat) (w : World) (p q : Nat) (st : Stt) (e : Ending) (w' : World) : Prop := e = .returned (.bool true) ∧ Both B w' p q st ∧ Below B w w'

set_option maxHeartbeats 8000000 in
set_option maxRecDepth 100000 in
theorem does_sync {B : Nat} {w : World} {p q : Nat} {v : Value} {st : Stt} {fs : List FH} {Ns : List Th} {k : Nat} (h : Has B w (stoT p st :: refB q v st.left st.acts :: rowF v fs :: Ns)) (hf : FsOk st.L fs Ns) (hg : Fine st k) (hk : k < 1000) {x0 : Int} {x1 x2 : ByteArray} {x3 : List Int} {x4 : Int} {x5 : List Int} (h1 : x1.size ≤ 30000) (h2 : x2.size ≤ 30000) {A3 A5 : Option Addr} {c3 c5 : Nat} (hd : x0.tmod 10 = 4) :
    Calls Try.prog 27 #[ptr p, ptr q, .agg #[.int .u8 x0, .string x1, .string x2, .slice A3 x3.length c3, .int .i64 x4, .slice A5 x5.length c5]] w (DoesPost B w p q (syncS st x1).2) := by
  have hu46 := Try.underlying46
  have hok : OkS st := hg.ok (by omega)
  have hA1 : Has B (w.alloc (.cells #[.int .u8 x0, .string x1, .string x2, .slice A3 x3.length c3, .int .i64 x4, .slice A5 x5.length c5] 46)) (stoT p st :: refB q v st.left st.acts :: rowF v fs :: boxT w.heap.size #[.int .u8 x0, .string x1, .string x2, .slice A3 x3.length c3, .int .i64 x4, .slice A5 x5.length c5] 46 :: Ns) := (h.box #[.int .u8 x0, .string x1, .string x2, .slice A3 x3.length c3, .int .i64 x4, .slice A5 x5.length c5] 46).perm (List.perm_middle (l₁ := [_, _, _])).symm
  have hB1 : Below B w (w.alloc (.cells #[.int .u8 x0, .string x1, .string x2, .slice A3 x3.length c3, .int .i64 x4, .slice A5 x5.length c5] 46)) := (Below.refl _ _).alloc h.size _
  obtain ⟨bx, -, -, -⟩ := hA1.box_cell (b := w.heap.size) (cs := #[.int .u8 x0, .string x1, .string x2, .slice A3 x3.length c3, .int .i64 x4, .slice A5 x5.length c5]) (t := 46) (by simp)
  have HA1 := Aside0.mk hA1
  have HB1 := Aside0.mk hB1
  have hf1 : FsOk st.L fs (boxT w.heap.size #[.int .u8 x0, .string x1, .string x2, .slice A3 x3.length c3, .int .i64 x4, .slice A5 x5.length c5] 46 :: Ns) := hf.more fun T hT => List.mem_cons_of_mem _ hT
  have HF1 := Aside0.mk hf1
  have HG := Aside0.mk hg
  have HH := Aside0.mk (sync_calls HA1.out.drew hok (s := x1) (by omega))
  have HRR : ∀ w2, Has B w2 (stoT p (syncS st x1).2 :: refB q v st.left st.acts :: rowF v fs :: boxT w.heap.size #[.int .u8 x0, .string x1, .string x2, .slice A3 x3.length c3, .int .i64 x4, .slice A5 x5.length c5] 46 :: Ns) → Calls Try.prog 45 #[ptr q, .string x1] w2 (RMeth B w2 q (syncS st x1).2 (.int .i64 (syncS st x1).1) (stoT p (syncS st x1).2 :: boxT w.heap.size #[.int .u8 x0, .string x1, .string x2, .slice A3 x3.length c3, .int .i64 x4, .slice A5 x5.length c5] 46 :: Ns)) := fun w2 hA => rsync_calls (ref_in hA HF1.out) HG.out (by omega) x1
  have HRR := Aside0.mk HRR
  have b1 : (w.alloc (.cells #[.int .u8 x0, .string x1, .string x2, .slice A3 x3.length c3, .int .i64 x4, .slice A5 x5.length c5] 46)).cell? ⟨w.heap.size, 1, none⟩ = some (.string x1) := bx 1
  have e4 : (x0.tmod 10 == 4) = true := beq_iff_eq.2 hd
  clear hd h hf hA1 hB1 hf1 hg hok bx
  generalize (syncS st x1) = r at HH HRR ⊢
  obtain ⟨r0, r1⟩ := r
  dsimp only at HH HRR ⊢
  go_enter Try.func27, Try.ntmps27
  go_wp2_with fail
  refine start_ (n := 10) (S := fun w' => w'.cell? ⟨w.heap.size, 1, none⟩ = some (.string x1)) (ds := [7]) #[false, false, false, false, false, false, false, false, false, false] (by kernel_rfl) rfl rfl (b1) (fun hHeld => ?_)
  refine pure_ (i := 0) (N := some 17) (v := ?_) (a' := ?_) #[true, false, false, false, false, false, false, false, false, false] rfl rfl (by kernel_rfl) (fun _ _ _ h => h) (Or.inl ⟨by rfl, ?_⟩) ?_ ?_
  rotate_left
  · intro w'
    go_simp
    with_reducible rfl
  rotate_left
  · simp only [Act.put, List.setIfInBounds_toArray, List.set_cons_zero, List.set_cons_succ, i64_w, i32_w]
    rfl
  refine pure_ (i := 1) (N := some 18) (v := ?_) (a' := ?_) #[true, true, false, false, false, false, false, false, false, false] rfl rfl (by kernel_rfl) (fun _ _ _ h => h) (Or.inl ⟨by rfl, ?_⟩) ?_ ?_
  rotate_left
  · intro w'
    go_simp
    with_reducible rfl
  rotate_left
  · simp only [Act.put, List.setIfInBounds_toArray, List.set_cons_zero, List.set_cons_succ, i64_w, i32_w]
    rfl
  refine pure_ (i := 4) (N := some 21) (v := ?_) (a' := ?_) #[true, true, false, false, true, false, false, false, false, false] rfl rfl (by kernel_rfl) (fun _ _ _ h => h) (Or.inl ⟨by rfl, ?_⟩) ?_ ?_
  rotate_left
  · intro w'
    go_simp
    with_reducible rfl
  rotate_left
  · simp only [Act.put, List.setIfInBounds_toArray, List.set_cons_zero, List.set_cons_succ, i64_w, i32_w]
    rfl
  refine pure_ (i := 5) (N := some 22) (v := ?_) (a' := ?_) #[true, true, false, false, true, true, false, false, false, false] rfl rfl (by kernel_rfl) (fun _ _ _ h => h) (Or.inl ⟨by rfl, ?_⟩) ?_ ?_
  rotate_left
  · intro w'
    go_simp
    with_reducible rfl
  rotate_left
  · simp only [Act.put, List.setIfInBounds_toArray, List.set_cons_zero, List.set_cons_succ, i64_w, i32_w]
    rfl
  refine take_ (i := 2) (N := some 19) (v := ?_) (a' := ?_) #[true, true, true, false, true, true, false, false, false, false] rfl rfl (by kernel_rfl) (fun _ _ _ h => h) (Or.inl ⟨by rfl, ?_⟩) hHeld ?_ ?_
  rotate_left
  · intro w' s0
    go_simp
    with_reducible rfl
  rotate_left
  · simp only [Act.put, List.setIfInBounds_toArray, List.set_cons_zero, List.set_cons_succ, i64_w, i32_w]
    rfl
  refine take_ (i := 6) (N := some 23) (v := ?_) (a' := ?_) #[true, true, true, false, true, true, true, false, false, false] rfl rfl (by kernel_rfl) (fun _ _ _ h => h) (Or.inl ⟨by rfl, ?_⟩) hHeld ?_ ?_
  rotate_left
  · intro w' s0
    go_simp
    with_reducible rfl
  rotate_left
  · simp only [Act.put, List.setIfInBounds_toArray, List.set_cons_zero, List.set_cons_succ, i64_w, i32_w]
    rfl
  refine one_ (i := 3) (N := some 20) #[true, true, true, true, true, true, true, false, false, false] rfl rfl (by kernel_rfl) (by decide) (fun K hK => ?_)
  refine goes_ Try.func18 (by kernel_rfl) rfl #[ptr p, .string x1] (by rfl) rfl rfl (by simp only [List.map_toArray, List.map_cons, List.map_nil]; rfl) ?_
  with_reducible refine (HH.out).mono ?_
  rintro e w5 ⟨rfl, hA5, hB5⟩
  refine ⟨_, rfl, ?_⟩
  obtain ⟨bx, -, -, -⟩ := hA5.box_cell (b := w.heap.size) (cs := #[.int .u8 x0, .string x1, .string x2, .slice A3 x3.length c3, .int .i64 x4, .slice A5 x5.length c5]) (t := 46) (by simp)
  have s1 : w5.cell? ⟨w.heap.size, 1, none⟩ = some (.string x1) := bx 1
  have HR5 := Aside0.mk (HRR.out w5 hA5)
  have HB5 := Aside0.mk (((below_drew HB1.out)).trans hB5)
  clear hA5 hB5 bx
  refine hK.out _ _ (s1) (fun hHeld => ?_)
  clear hK K
  refine norm_ (a' := ?_) ?_ ?_
  rotate_left
  · show Act.put _ (some 20) _ = _
    simp only [Act.put, List.setIfInBounds_toArray, List.set_cons_zero, List.set_cons_succ, i64_w, i32_w]
    rfl
  refine last_ (i := 7) (N := some 24) #[true, true, true, true, true, true, true, true, false, false] rfl rfl (by kernel_rfl) (by decide) (fun K hK => ?_)
  refine goes_ Try.func45 (by kernel_rfl) rfl #[ptr q, .string x1] (by rfl) rfl rfl (by simp only [List.map_toArray, List.map_cons, List.map_nil]; rfl) ?_
  with_reducible refine (HR5.out).mono ?_
  rintro e w6 ⟨Ms, rfl, hR6, hB6⟩
  refine ⟨_, rfl, ?_⟩
  refine hK.out _ _ ?_
  clear hK K
  refine norm_ (a' := ?_) ?_ ?_
  rotate_left
  · show Act.put _ (some 24) _ = _
    simp only [Act.put, List.setIfInBounds_toArray, List.set_cons_zero, List.set_cons_succ, i64_w, i32_w]
    rfl
  refine pure_ (i := 8) (N := some 25) (v := ?_) (a' := ?_) #[true, true, true, true, true, true, true, true, true, false] rfl rfl (by kernel_rfl) (fun _ _ _ h => h) (Or.inl ⟨by rfl, ?_⟩) ?_ ?_
  rotate_left
  · intro w'
    go_simp
    with_reducible rfl
  rotate_left
  · simp only [Act.put, List.setIfInBounds_toArray, List.set_cons_zero, List.set_cons_succ, i64_w, i32_w]
    rfl
  refine pure_ (i := 9) (N := some 6) (v := ?_) (a' := ?_) #[true, true, true, true, true, true, true, true, true, true] rfl rfl (by kernel_rfl) (fun _ _ _ h => h) (Or.inl ⟨by rfl, ?_⟩) ?_ ?_
  rotate_left
  · intro w'
    go_simp
    with_reducible rfl
  rotate_left
  · simp only [Act.put, List.setIfInBounds_toArray, List.set_cons_zero, List.set_cons_succ, i64_w, i32_w]
    rfl
  refine done_ (by kernel_rfl) ?_

  obtain ⟨v6, fs6, hA6, hf6⟩ := ref_out hR6 (marked_sto _ _ _ _ _)
  have HBO : Aside0 (Both B w6 p q r1) := ⟨v6, fs6, _, hA6, hf6⟩
  have HB6 := Aside0.mk (HB5.out.trans hB6)
  clear hR6 hA6 hf6 hB6
  go_wp2_with fail
  go_ret
  exact ⟨rfl, HBO.out, HB6.out⟩
set_option maxHeartbeats 8000000 in
set_option maxRecDepth 100000 in
theorem does_trunc {B : Nat} {w : World} {p q : Nat} {v : Value} {st : Stt} {fs : List FH} {Ns : List Th} {k : Nat} (h : Has B w (stoT p st :: refB q v st.left st.acts :: rowF v fs :: Ns)) (hf : FsOk st.L fs Ns) (hg : Fine st k) (hk : k < 1000) {x0 : Int} {x1 x2 : ByteArray} {x3 : List Int} {x4 : Int} {x5 : List Int} (h1 : x1.size ≤ 30000) (h2 : x2.size ≤ 30000) {A3 A5 : Option Addr} {c3 c5 : Nat} (hd : x0.tmod 10 = 5) :
    Calls Try.prog 27 #[ptr p, ptr q, .agg #[.int .u8 x0, .string x1, .string x2, .slice A3 x3.length c3, .int .i64 x4, .slice A5 x5.length c5]] w (DoesPost B w p q (truncS st x1 x4).2) := by
  have hu46 := Try.underlying46
  have hok : OkS st := hg.ok (by omega)
  have hA1 : Has B (w.alloc (.cells #[.int .u8 x0, .string x1, .string x2, .slice A3 x3.length c3, .int .i64 x4, .slice A5 x5.length c5] 46)) (stoT p st :: refB q v st.left st.acts :: rowF v fs :: boxT w.heap.size #[.int .u8 x0, .string x1, .string x2, .slice A3 x3.length c3, .int .i64 x4, .slice A5 x5.length c5] 46 :: Ns) := (h.box #[.int .u8 x0, .string x1, .string x2, .slice A3 x3.length c3, .int .i64 x4, .slice A5 x5.length c5] 46).perm (List.perm_middle (l₁ := [_, _, _])).symm
  have hB1 : Below B w (w.alloc (.cells #[.int .u8 x0, .string x1, .string x2, .slice A3 x3.length c3, .int .i64 x4, .slice A5 x5.length c5] 46)) := (Below.refl _ _).alloc h.size _
  obtain ⟨bx, -, -, -⟩ := hA1.box_cell (b := w.heap.size) (cs := #[.int .u8 x0, .string x1, .string x2, .slice A3 x3.length c3, .int .i64 x4, .slice A5 x5.length c5]) (t := 46) (by simp)
  have HA1 := Aside0.mk hA1
  have HB1 := Aside0.mk hB1
  have hf1 : FsOk st.L fs (boxT w.heap.size #[.int .u8 x0, .string x1, .string x2, .slice A3 x3.length c3, .int .i64 x4, .slice A5 x5.length c5] 46 :: Ns) := hf.more fun T hT => List.mem_cons_of_mem _ hT
  have HF1 := Aside0.mk hf1
  have HG := Aside0.mk hg
  have HH := Aside0.mk (trunc_calls HA1.out.drew hok (s := x1) (by omega) x4)
  have HRR : ∀ w2, Has B w2 (stoT p (truncS st x1 x4).2 :: refB q v st.left st.acts :: rowF v fs :: boxT w.heap.size #[.int .u8 x0, .string x1, .string x2, .slice A3 x3.length c3, .int .i64 x4, .slice A5 x5.length c5] 46 :: Ns) → Calls Try.prog 46 #[ptr q, .string x1, .int .i64 x4] w2 (RMeth B w2 q (truncS st x1 x4).2 (.int .i64 (truncS st x1 x4).1) (stoT p (truncS st x1 x4).2 :: boxT w.heap.size #[.int .u8 x0, .string x1, .string x2, .slice A3 x3.length c3, .int .i64 x4, .slice A5 x5.length c5] 46 :: Ns)) := fun w2 hA => rtrunc_calls (ref_in hA HF1.out) HG.out (by omega) x1 x4
  have HRR := Aside0.mk HRR
  have b1 : (w.alloc (.cells #[.int .u8 x0, .string x1, .string x2, .slice A3 x3.length c3, .int .i64 x4, .slice A5 x5.length c5] 46)).cell? ⟨w.heap.size, 1, none⟩ = some (.string x1) := bx 1
  have b4 : (w.alloc (.cells #[.int .u8 x0, .string x1, .string x2, .slice A3 x3.length c3, .int .i64 x4, .slice A5 x5.length c5] 46)).cell? ⟨w.heap.size, 4, none⟩ = some (.int .i64 x4) := bx 4
  have e4 : (x0.tmod 10 == 4) = false := beq_eq_false_iff_ne.2 (by omega)
  have e5 : (x0.tmod 10 == 5) = true := beq_iff_eq.2 hd
  clear hd h hf hA1 hB1 hf1 hg hok bx
  generalize (truncS st x1 x4) = r at HH HRR ⊢
  obtain ⟨r0, r1⟩ := r
  dsimp only at HH HRR ⊢
  go_enter Try.func27, Try.ntmps27
  go_wp2_with fail
  refine start_ (n := 14) (S := fun w' => w'.cell? ⟨w.heap.size, 1, none⟩ = some (.string x1) ∧ w'.cell? ⟨w.heap.size, 4, none⟩ = some (.int .i64 x4)) (ds := [11]) #[false, false, false, false, false, false, false, false, false, false, false, false, false, false] (by kernel_rfl) rfl rfl ⟨b1, b4⟩ (fun hHeld => ?_)
  refine pure_ (i := 0) (N := some 28) (v := ?_) (a' := ?_) #[true, false, false, false, false, false, false, false, false, false, false, false, false, false] rfl rfl (by kernel_rfl) (fun _ _ _ h => h) (Or.inl ⟨by rfl, ?_⟩) ?_ ?_
  rotate_left
  · intro w'
    go_simp
    with_reducible rfl
  rotate_left
  · simp only [Act.put, List.setIfInBounds_toArray, List.set_cons_zero, List.set_cons_succ, i64_w, i32_w]
    rfl
  refine pure_ (i := 1) (N := some 29) (v := ?_) (a' := ?_) #[true, true, false, false, false, false, false, false, false, false, false, false, false, false] rfl rfl (by kernel_rfl) (fun _ _ _ h => h) (Or.inl ⟨by rfl, ?_⟩) ?_ ?_
  rotate_left
  · intro w'
    go_simp
    with_reducible rfl
  rotate_left
  · simp only [Act.put, List.setIfInBounds_toArray, List.set_cons_zero, List.set_cons_succ, i64_w, i32_w]
    rfl
  refine pure_ (i := 3) (N := some 31) (v := ?_) (a' := ?_) #[true, true, false, true, false, false, false, false, false, false, false, false, false, false] rfl rfl (by kernel_rfl) (fun _ _ _ h => h) (Or.inl ⟨by rfl, ?_⟩) ?_ ?_
  rotate_left
  · intro w'
    go_simp
    with_reducible rfl
  rotate_left
  · simp only [Act.put, List.setIfInBounds_toArray, List.set_cons_zero, List.set_cons_succ, i64_w, i32_w]
    rfl
  refine pure_ (i := 6) (N := some 34) (v := ?_) (a' := ?_) #[true, true, false, true, false, false, true, false, false, false, false, false, false, false] rfl rfl (by kernel_rfl) (fun _ _ _ h => h) (Or.inl ⟨by rfl, ?_⟩) ?_ ?_
  rotate_left
  · intro w'
    go_simp
    with_reducible rfl
  rotate_left
  · simp only [Act.put, List.setIfInBounds_toArray, List.set_cons_zero, List.set_cons_succ, i64_w, i32_w]
    rfl
  refine pure_ (i := 7) (N := some 35) (v := ?_) (a' := ?_) #[true, true, false, true, false, false, true, true, false, false, false, false, false, false] rfl rfl (by kernel_rfl) (fun _ _ _ h => h) (Or.inl ⟨by rfl, ?_⟩) ?_ ?_
  rotate_left
  · intro w'
    go_simp
    with_reducible rfl
  rotate_left
  · simp only [Act.put, List.setIfInBounds_toArray, List.set_cons_zero, List.set_cons_succ, i64_w, i32_w]
    rfl
  refine pure_ (i := 9) (N := some 37) (v := ?_) (a' := ?_) #[true, true, false, true, false, false, true, true, false, true, false, false, false, false] rfl rfl (by kernel_rfl) (fun _ _ _ h => h) (Or.inl ⟨by rfl, ?_⟩) ?_ ?_
  rotate_left
  · intro w'
    go_simp
    with_reducible rfl
  rotate_left
  · simp only [Act.put, List.setIfInBounds_toArray, List.set_cons_zero, List.set_cons_succ, i64_w, i32_w]
    rfl
  refine take_ (i := 2) (N := some 30) (v := ?_) (a' := ?_) #[true, true, true, true, false, false, true, true, false, true, false, false, false, false] rfl rfl (by kernel_rfl) (fun _ _ _ h => h) (Or.inl ⟨by rfl, ?_⟩) hHeld ?_ ?_
  rotate_left
  · rintro w' ⟨s0, s1⟩
    go_simp
    with_reducible rfl
  rotate_left
  · simp only [Act.put, List.setIfInBounds_toArray, List.set_cons_zero, List.set_cons_succ, i64_w, i32_w]
    rfl
  refine take_ (i := 4) (N := some 32) (v := ?_) (a' := ?_) #[true, true, true, true, true, false, true, true, false, true, false, false, false, false] rfl rfl (by kernel_rfl) (fun _ _ _ h => h) (Or.inl ⟨by rfl, ?_⟩) hHeld ?_ ?_
  rotate_left
  · rintro w' ⟨s0, s1⟩
    go_simp
    with_reducible rfl
  rotate_left
  · simp only [Act.put, List.setIfInBounds_toArray, List.set_cons_zero, List.set_cons_succ, i64_w, i32_w]
    rfl
  refine take_ (i := 8) (N := some 36) (v := ?_) (a' := ?_) #[true, true, true, true, true, false, true, true, true, true, false, false, false, false] rfl rfl (by kernel_rfl) (fun _ _ _ h => h) (Or.inl ⟨by rfl, ?_⟩) hHeld ?_ ?_
  rotate_left
  · rintro w' ⟨s0, s1⟩
    go_simp
    with_reducible rfl
  rotate_left
  · simp only [Act.put, List.setIfInBounds_toArray, List.set_cons_zero, List.set_cons_succ, i64_w, i32_w]
    rfl
  refine take_ (i := 10) (N := some 38) (v := ?_) (a' := ?_) #[true, true, true, true, true, false, true, true, true, true, true, false, false, false] rfl rfl (by kernel_rfl) (fun _ _ _ h => h) (Or.inl ⟨by rfl, ?_⟩) hHeld ?_ ?_
  rotate_left
  · rintro w' ⟨s0, s1⟩
    go_simp
    with_reducible rfl
  rotate_left
  · simp only [Act.put, List.setIfInBounds_toArray, List.set_cons_zero, List.set_cons_succ, i64_w, i32_w]
    rfl
  refine one_ (i := 5) (N := some 33) #[true, true, true, true, true, true, true, true, true, true, true, false, false, false] rfl rfl (by kernel_rfl) (by decide) (fun K hK => ?_)
  refine goes_ Try.func12 (by kernel_rfl) rfl #[ptr p, .string x1, .int .i64 x4] (by rfl) rfl rfl (by simp only [List.map_toArray, List.map_cons, List.map_nil]; rfl) ?_
  with_reducible refine (HH.out).mono ?_
  rintro e w5 ⟨rfl, hA5, hB5⟩
  refine ⟨_, rfl, ?_⟩
  obtain ⟨bx, -, -, -⟩ := hA5.box_cell (b := w.heap.size) (cs := #[.int .u8 x0, .string x1, .string x2, .slice A3 x3.length c3, .int .i64 x4, .slice A5 x5.length c5]) (t := 46) (by simp)
  have s1 : w5.cell? ⟨w.heap.size, 1, none⟩ = some (.string x1) := bx 1
  have s4 : w5.cell? ⟨w.heap.size, 4, none⟩ = some (.int .i64 x4) := bx 4
  have HR5 := Aside0.mk (HRR.out w5 hA5)
  have HB5 := Aside0.mk (((below_drew HB1.out)).trans hB5)
  clear hA5 hB5 bx
  refine hK.out _ _ ⟨s1, s4⟩ (fun hHeld => ?_)
  clear hK K
  refine norm_ (a' := ?_) ?_ ?_
  rotate_left
  · show Act.put _ (some 33) _ = _
    simp only [Act.put, List.setIfInBounds_toArray, List.set_cons_zero, List.set_cons_succ, i64_w, i32_w]
    rfl
  refine last_ (i := 11) (N := some 39) #[true, true, true, true, true, true, true, true, true, true, true, true, false, false] rfl rfl (by kernel_rfl) (by decide) (fun K hK => ?_)
  refine goes_ Try.func46 (by kernel_rfl) rfl #[ptr q, .string x1, .int .i64 x4] (by rfl) rfl rfl (by simp only [List.map_toArray, List.map_cons, List.map_nil]; rfl) ?_
  with_reducible refine (HR5.out).mono ?_
  rintro e w6 ⟨Ms, rfl, hR6, hB6⟩
  refine ⟨_, rfl, ?_⟩
  refine hK.out _ _ ?_
  clear hK K
  refine norm_ (a' := ?_) ?_ ?_
  rotate_left
  · show Act.put _ (some 39) _ = _
    simp only [Act.put, List.setIfInBounds_toArray, List.set_cons_zero, List.set_cons_succ, i64_w, i32_w]
    rfl
  refine pure_ (i := 12) (N := some 40) (v := ?_) (a' := ?_) #[true, true, true, true, true, true, true, true, true, true, true, true, true, false] rfl rfl (by kernel_rfl) (fun _ _ _ h => h) (Or.inl ⟨by rfl, ?_⟩) ?_ ?_
  rotate_left
  · intro w'
    go_simp
    with_reducible rfl
  rotate_left
  · simp only [Act.put, List.setIfInBounds_toArray, List.set_cons_zero, List.set_cons_succ, i64_w, i32_w]
    rfl
  refine pure_ (i := 13) (N := some 6) (v := ?_) (a' := ?_) #[true, true, true, true, true, true, true, true, true, true, true, true, true, true] rfl rfl (by kernel_rfl) (fun _ _ _ h => h) (Or.inl ⟨by rfl, ?_⟩) ?_ ?_
  rotate_left
  · intro w'
    go_simp
    with_reducible rfl
  rotate_left
  · simp only [Act.put, List.setIfInBounds_toArray, List.set_cons_zero, List.set_cons_succ, i64_w, i32_w]
    rfl
  refine done_ (by kernel_rfl) ?_

  obtain ⟨v6, fs6, hA6, hf6⟩ := ref_out hR6 (marked_sto _ _ _ _ _)
  have HBO : Aside0 (Both B w6 p q r1) := ⟨v6, fs6, _, hA6, hf6⟩
  have HB6 := Aside0.mk (HB5.out.trans hB6)
  clear hR6 hA6 hf6 hB6
  go_wp2_with fail
  go_ret
  exact ⟨rfl, HBO.out, HB6.out⟩
set_option maxHeartbeats 8000000 in
set_option maxRecDepth 100000 in
theorem does_rename {B : Nat} {w : World} {p q : Nat} {v : Value} {st : Stt} {fs : List FH} {Ns : List Th} {k : Nat} (h : Has B w (stoT p st :: refB q v st.left st.acts :: rowF v fs :: Ns)) (hf : FsOk st.L fs Ns) (hg : Fine st k) (hk : k < 1000) {x0 : Int} {x1 x2 : ByteArray} {x3 : List Int} {x4 : Int} {x5 : List Int} (h1 : x1.size ≤ 30000) (h2 : x2.size ≤ 30000) {A3 A5 : Option Addr} {c3 c5 : Nat} (hd : x0.tmod 10 = 6) :
    Calls Try.prog 27 #[ptr p, ptr q, .agg #[.int .u8 x0, .string x1, .string x2, .slice A3 x3.length c3, .int .i64 x4, .slice A5 x5.length c5]] w (DoesPost B w p q (renameS st x1 x2).2) := by
  have hu46 := Try.underlying46
  have hok : OkS st := hg.ok (by omega)
  have hA1 : Has B (w.alloc (.cells #[.int .u8 x0, .string x1, .string x2, .slice A3 x3.length c3, .int .i64 x4, .slice A5 x5.length c5] 46)) (stoT p st :: refB q v st.left st.acts :: rowF v fs :: boxT w.heap.size #[.int .u8 x0, .string x1, .string x2, .slice A3 x3.length c3, .int .i64 x4, .slice A5 x5.length c5] 46 :: Ns) := (h.box #[.int .u8 x0, .string x1, .string x2, .slice A3 x3.length c3, .int .i64 x4, .slice A5 x5.length c5] 46).perm (List.perm_middle (l₁ := [_, _, _])).symm
  have hB1 : Below B w (w.alloc (.cells #[.int .u8 x0, .string x1, .string x2, .slice A3 x3.length c3, .int .i64 x4, .slice A5 x5.length c5] 46)) := (Below.refl _ _).alloc h.size _
  obtain ⟨bx, -, -, -⟩ := hA1.box_cell (b := w.heap.size) (cs := #[.int .u8 x0, .string x1, .string x2, .slice A3 x3.length c3, .int .i64 x4, .slice A5 x5.length c5]) (t := 46) (by simp)
  have HA1 := Aside0.mk hA1
  have HB1 := Aside0.mk hB1
  have hf1 : FsOk st.L fs (boxT w.heap.size #[.int .u8 x0, .string x1, .string x2, .slice A3 x3.length c3, .int .i64 x4, .slice A5 x5.length c5] 46 :: Ns) := hf.more fun T hT => List.mem_cons_of_mem _ hT
  have HF1 := Aside0.mk hf1
  have HG := Aside0.mk hg
  have HH := Aside0.mk (rename_calls HA1.out.drew hok (s := x1) (m := x2) (by omega) (by omega))
  have HRR : ∀ w2, Has B w2 (stoT p (renameS st x1 x2).2 :: refB q v st.left st.acts :: rowF v fs :: boxT w.heap.size #[.int .u8 x0, .string x1, .string x2, .slice A3 x3.length c3, .int .i64 x4, .slice A5 x5.length c5] 46 :: Ns) → Calls Try.prog 47 #[ptr q, .string x1, .string x2] w2 (RMeth B w2 q (renameS st x1 x2).2 (.int .i64 (renameS st x1 x2).1) (stoT p (renameS st x1 x2).2 :: boxT w.heap.size #[.int .u8 x0, .string x1, .string x2, .slice A3 x3.length c3, .int .i64 x4, .slice A5 x5.length c5] 46 :: Ns)) := fun w2 hA => rrename_calls (ref_in hA HF1.out) HG.out (by omega) x1 x2 (by omega)
  have HRR := Aside0.mk HRR
  have b1 : (w.alloc (.cells #[.int .u8 x0, .string x1, .string x2, .slice A3 x3.length c3, .int .i64 x4, .slice A5 x5.length c5] 46)).cell? ⟨w.heap.size, 1, none⟩ = some (.string x1) := bx 1
  have b2 : (w.alloc (.cells #[.int .u8 x0, .string x1, .string x2, .slice A3 x3.length c3, .int .i64 x4, .slice A5 x5.length c5] 46)).cell? ⟨w.heap.size, 2, none⟩ = some (.string x2) := bx 2
  have e4 : (x0.tmod 10 == 4) = false := beq_eq_false_iff_ne.2 (by omega)
  have e5 : (x0.tmod 10 == 5) = false := beq_eq_false_iff_ne.2 (by omega)
  have e6 : (x0.tmod 10 == 6) = true := beq_iff_eq.2 hd
  clear hd h hf hA1 hB1 hf1 hg hok bx
  generalize (renameS st x1 x2) = r at HH HRR ⊢
  obtain ⟨r0, r1⟩ := r
  dsimp only at HH HRR ⊢
  go_enter Try.func27, Try.ntmps27
  go_wp2_with fail
  refine start_ (n := 14) (S := fun w' => w'.cell? ⟨w.heap.size, 1, none⟩ = some (.string x1) ∧ w'.cell? ⟨w.heap.size, 2, none⟩ = some (.string x2)) (ds := [11]) #[false, false, false, false, false, false, false, false, false, false, false, false, false, false] (by kernel_rfl) rfl rfl ⟨b1, b2⟩ (fun hHeld => ?_)
  refine pure_ (i := 0) (N := some 43) (v := ?_) (a' := ?_) #[true, false, false, false, false, false, false, false, false, false, false, false, false, false] rfl rfl (by kernel_rfl) (fun _ _ _ h => h) (Or.inl ⟨by rfl, ?_⟩) ?_ ?_
  rotate_left
  · intro w'
    go_simp
    with_reducible rfl
  rotate_left
  · simp only [Act.put, List.setIfInBounds_toArray, List.set_cons_zero, List.set_cons_succ, i64_w, i32_w]
    rfl
  refine pure_ (i := 1) (N := some 44) (v := ?_) (a' := ?_) #[true, true, false, false, false, false, false, false, false, false, false, false, false, false] rfl rfl (by kernel_rfl) (fun _ _ _ h => h) (Or.inl ⟨by rfl, ?_⟩) ?_ ?_
  rotate_left
  · intro w'
    go_simp
    with_reducible rfl
  rotate_left
  · simp only [Act.put, List.setIfInBounds_toArray, List.set_cons_zero, List.set_cons_succ, i64_w, i32_w]
    rfl
  refine pure_ (i := 3) (N := some 46) (v := ?_) (a' := ?_) #[true, true, false, true, false, false, false, false, false, false, false, false, false, false] rfl rfl (by kernel_rfl) (fun _ _ _ h => h) (Or.inl ⟨by rfl, ?_⟩) ?_ ?_
  rotate_left
  · intro w'
    go_simp
    with_reducible rfl
  rotate_left
  · simp only [Act.put, List.setIfInBounds_toArray, List.set_cons_zero, List.set_cons_succ, i64_w, i32_w]
    rfl
  refine pure_ (i := 6) (N := some 49) (v := ?_) (a' := ?_) #[true, true, false, true, false, false, true, false, false, false, false, false, false, false] rfl rfl (by kernel_rfl) (fun _ _ _ h => h) (Or.inl ⟨by rfl, ?_⟩) ?_ ?_
  rotate_left
  · intro w'
    go_simp
    with_reducible rfl
  rotate_left
  · simp only [Act.put, List.setIfInBounds_toArray, List.set_cons_zero, List.set_cons_succ, i64_w, i32_w]
    rfl
  refine pure_ (i := 7) (N := some 50) (v := ?_) (a' := ?_) #[true, true, false, true, false, false, true, true, false, false, false, false, false, false] rfl rfl (by kernel_rfl) (fun _ _ _ h => h) (Or.inl ⟨by rfl, ?_⟩) ?_ ?_
  rotate_left
  · intro w'
    go_simp
    with_reducible rfl
  rotate_left
  · simp only [Act.put, List.setIfInBounds_toArray, List.set_cons_zero, List.set_cons_succ, i64_w, i32_w]
    rfl
  refine pure_ (i := 9) (N := some 52) (v := ?_) (a' := ?_) #[true, true, false, true, false, false, true, true, false, true, false, false, false, false] rfl rfl (by kernel_rfl) (fun _ _ _ h => h) (Or.inl ⟨by rfl, ?_⟩) ?_ ?_
  rotate_left
  · intro w'
    go_simp
    with_reducible rfl
  rotate_left
  · simp only [Act.put, List.setIfInBounds_toArray, List.set_cons_zero, List.set_cons_succ, i64_w, i32_w]
    rfl
  refine take_ (i := 2) (N := some 45) (v := ?_) (a' := ?_) #[true, true, true, true, false, false, true, true, false, true, false, false, false, false] rfl rfl (by kernel_rfl) (fun _ _ _ h => h) (Or.inl ⟨by rfl, ?_⟩) hHeld ?_ ?_
  rotate_left
  · rintro w' ⟨s0, s1⟩
    go_simp
    with_reducible rfl
  rotate_left
  · simp only [Act.put, List.setIfInBounds_toArray, List.set_cons_zero, List.set_cons_succ, i64_w, i32_w]
    rfl
  refine take_ (i := 4) (N := some 47) (v := ?_) (a' := ?_) #[true, true, true, true, true, false, true, true, false, true, false, false, false, false] rfl rfl (by kernel_rfl) (fun _ _ _ h => h) (Or.inl ⟨by rfl, ?_⟩) hHeld ?_ ?_
  rotate_left
  · rintro w' ⟨s0, s1⟩
    go_simp
    with_reducible rfl
  rotate_left
  · simp only [Act.put, List.setIfInBounds_toArray, List.set_cons_zero, List.set_cons_succ, i64_w, i32_w]
    rfl
  refine take_ (i := 8) (N := some 51) (v := ?_) (a' := ?_) #[true, true, true, true, true, false, true, true, true, true, false, false, false, false] rfl rfl (by kernel_rfl) (fun _ _ _ h => h) (Or.inl ⟨by rfl, ?_⟩) hHeld ?_ ?_
  rotate_left
  · rintro w' ⟨s0, s1⟩
    go_simp
    with_reducible rfl
  rotate_left
  · simp only [Act.put, List.setIfInBounds_toArray, List.set_cons_zero, List.set_cons_succ, i64_w, i32_w]
    rfl
  refine take_ (i := 10) (N := some 53) (v := ?_) (a' := ?_) #[true, true, true, true, true, false, true, true, true, true, true, false, false, false] rfl rfl (by kernel_rfl) (fun _ _ _ h => h) (Or.inl ⟨by rfl, ?_⟩) hHeld ?_ ?_
  rotate_left
  · rintro w' ⟨s0, s1⟩
    go_simp
    with_reducible rfl
  rotate_left
  · simp only [Act.put, List.setIfInBounds_toArray, List.set_cons_zero, List.set_cons_succ, i64_w, i32_w]
    rfl
  refine one_ (i := 5) (N := some 48) #[true, true, true, true, true, true, true, true, true, true, true, false, false, false] rfl rfl (by kernel_rfl) (by decide) (fun K hK => ?_)
  refine goes_ Try.func14 (by kernel_rfl) rfl #[ptr p, .string x1, .string x2] (by rfl) rfl rfl (by simp only [List.map_toArray, List.map_cons, List.map_nil]; rfl) ?_
  with_reducible refine (HH.out).mono ?_
  rintro e w5 ⟨rfl, hA5, hB5⟩
  refine ⟨_, rfl, ?_⟩
  obtain ⟨bx, -, -, -⟩ := hA5.box_cell (b := w.heap.size) (cs := #[.int .u8 x0, .string x1, .string x2, .slice A3 x3.length c3, .int .i64 x4, .slice A5 x5.length c5]) (t := 46) (by simp)
  have s1 : w5.cell? ⟨w.heap.size, 1, none⟩ = some (.string x1) := bx 1
  have s2 : w5.cell? ⟨w.heap.size, 2, none⟩ = some (.string x2) := bx 2
  have HR5 := Aside0.mk (HRR.out w5 hA5)
  have HB5 := Aside0.mk (((below_drew HB1.out)).trans hB5)
  clear hA5 hB5 bx
  refine hK.out _ _ ⟨s1, s2⟩ (fun hHeld => ?_)
  clear hK K
  refine norm_ (a' := ?_) ?_ ?_
  rotate_left
  · show Act.put _ (some 48) _ = _
    simp only [Act.put, List.setIfInBounds_toArray, List.set_cons_zero, List.set_cons_succ, i64_w, i32_w]
    rfl
  refine last_ (i := 11) (N := some 54) #[true, true, true, true, true, true, true, true, true, true, true, true, false, false] rfl rfl (by kernel_rfl) (by decide) (fun K hK => ?_)
  refine goes_ Try.func47 (by kernel_rfl) rfl #[ptr q, .string x1, .string x2] (by rfl) rfl rfl (by simp only [List.map_toArray, List.map_cons, List.map_nil]; rfl) ?_
  with_reducible refine (HR5.out).mono ?_
  rintro e w6 ⟨Ms, rfl, hR6, hB6⟩
  refine ⟨_, rfl, ?_⟩
  refine hK.out _ _ ?_
  clear hK K
  refine norm_ (a' := ?_) ?_ ?_
  rotate_left
  · show Act.put _ (some 54) _ = _
    simp only [Act.put, List.setIfInBounds_toArray, List.set_cons_zero, List.set_cons_succ, i64_w, i32_w]
    rfl
  refine pure_ (i := 12) (N := some 55) (v := ?_) (a' := ?_) #[true, true, true, true, true, true, true, true, true, true, true, true, true, false] rfl rfl (by kernel_rfl) (fun _ _ _ h => h) (Or.inl ⟨by rfl, ?_⟩) ?_ ?_
  rotate_left
  · intro w'
    go_simp
    with_reducible rfl
  rotate_left
  · simp only [Act.put, List.setIfInBounds_toArray, List.set_cons_zero, List.set_cons_succ, i64_w, i32_w]
    rfl
  refine pure_ (i := 13) (N := some 6) (v := ?_) (a' := ?_) #[true, true, true, true, true, true, true, true, true, true, true, true, true, true] rfl rfl (by kernel_rfl) (fun _ _ _ h => h) (Or.inl ⟨by rfl, ?_⟩) ?_ ?_
  rotate_left
  · intro w'
    go_simp
    with_reducible rfl
  rotate_left
  · simp only [Act.put, List.setIfInBounds_toArray, List.set_cons_zero, List.set_cons_succ, i64_w, i32_w]
    rfl
  refine done_ (by kernel_rfl) ?_

  obtain ⟨v6, fs6, hA6, hf6⟩ := ref_out hR6 (marked_sto _ _ _ _ _)
  have HBO : Aside0 (Both B w6 p q r1) := ⟨v6, fs6, _, hA6, hf6⟩
  have HB6 := Aside0.mk (HB5.out.trans hB6)
  clear hR6 hA6 hf6 hB6
  go_wp2_with fail
  go_ret
  exact ⟨rfl, HBO.out, HB6.out⟩
set_option maxHeartbeats 8000000 in
set_option maxRecDepth 100000 in
theorem does_remove {B : Nat} {w : World} {p q : Nat} {v : Value} {st : Stt} {fs : List FH} {Ns : List Th} {k : Nat} (h : Has B w (stoT p st :: refB q v st.left st.acts :: rowF v fs :: Ns)) (hf : FsOk st.L fs Ns) (hg : Fine st k) (hk : k < 1000) {x0 : Int} {x1 x2 : ByteArray} {x3 : List Int} {x4 : Int} {x5 : List Int} (h1 : x1.size ≤ 30000) (h2 : x2.size ≤ 30000) {A3 A5 : Option Addr} {c3 c5 : Nat} (hd : x0.tmod 10 = 7) :
    Calls Try.prog 27 #[ptr p, ptr q, .agg #[.int .u8 x0, .string x1, .string x2, .slice A3 x3.length c3, .int .i64 x4, .slice A5 x5.length c5]] w (DoesPost B w p q (removeS st x1).2) := by
  have hu46 := Try.underlying46
  have hok : OkS st := hg.ok (by omega)
  have hA1 : Has B (w.alloc (.cells #[.int .u8 x0, .string x1, .string x2, .slice A3 x3.length c3, .int .i64 x4, .slice A5 x5.length c5] 46)) (stoT p st :: refB q v st.left st.acts :: rowF v fs :: boxT w.heap.size #[.int .u8 x0, .string x1, .string x2, .slice A3 x3.length c3, .int .i64 x4, .slice A5 x5.length c5] 46 :: Ns) := (h.box #[.int .u8 x0, .string x1, .string x2, .slice A3 x3.length c3, .int .i64 x4, .slice A5 x5.length c5] 46).perm (List.perm_middle (l₁ := [_, _, _])).symm
  have hB1 : Below B w (w.alloc (.cells #[.int .u8 x0, .string x1, .string x2, .slice A3 x3.length c3, .int .i64 x4, .slice A5 x5.length c5] 46)) := (Below.refl _ _).alloc h.size _
  obtain ⟨bx, -, -, -⟩ := hA1.box_cell (b := w.heap.size) (cs := #[.int .u8 x0, .string x1, .string x2, .slice A3 x3.length c3, .int .i64 x4, .slice A5 x5.length c5]) (t := 46) (by simp)
  have HA1 := Aside0.mk hA1
  have HB1 := Aside0.mk hB1
  have hf1 : FsOk st.L fs (boxT w.heap.size #[.int .u8 x0, .string x1, .string x2, .slice A3 x3.length c3, .int .i64 x4, .slice A5 x5.length c5] 46 :: Ns) := hf.more fun T hT => List.mem_cons_of_mem _ hT
  have HF1 := Aside0.mk hf1
  have HG := Aside0.mk hg
  have HH := Aside0.mk (remove_calls HA1.out.drew hok (s := x1) (by omega))
  have HRR : ∀ w2, Has B w2 (stoT p (removeS st x1).2 :: refB q v st.left st.acts :: rowF v fs :: boxT w.heap.size #[.int .u8 x0, .string x1, .string x2, .slice A3 x3.length c3, .int .i64 x4, .slice A5 x5.length c5] 46 :: Ns) → Calls Try.prog 48 #[ptr q, .string x1] w2 (RMeth B w2 q (removeS st x1).2 (.int .i64 (removeS st x1).1) (stoT p (removeS st x1).2 :: boxT w.heap.size #[.int .u8 x0, .string x1, .string x2, .slice A3 x3.length c3, .int .i64 x4, .slice A5 x5.length c5] 46 :: Ns)) := fun w2 hA => rremove_calls (ref_in hA HF1.out) HG.out (by omega) x1
  have HRR := Aside0.mk HRR
  have b1 : (w.alloc (.cells #[.int .u8 x0, .string x1, .string x2, .slice A3 x3.length c3, .int .i64 x4, .slice A5 x5.length c5] 46)).cell? ⟨w.heap.size, 1, none⟩ = some (.string x1) := bx 1
  have e4 : (x0.tmod 10 == 4) = false := beq_eq_false_iff_ne.2 (by omega)
  have e5 : (x0.tmod 10 == 5) = false := beq_eq_false_iff_ne.2 (by omega)
  have e6 : (x0.tmod 10 == 6) = false := beq_eq_false_iff_ne.2 (by omega)
  have e7 : (x0.tmod 10 == 7) = true := beq_iff_eq.2 hd
  clear hd h hf hA1 hB1 hf1 hg hok bx
  generalize (removeS st x1) = r at HH HRR ⊢
  obtain ⟨r0, r1⟩ := r
  dsimp only at HH HRR ⊢
  go_enter Try.func27, Try.ntmps27
  go_wp2_with fail
  refine start_ (n := 10) (S := fun w' => w'.cell? ⟨w.heap.size, 1, none⟩ = some (.string x1)) (ds := [7]) #[false, false, false, false, false, false, false, false, false, false] (by kernel_rfl) rfl rfl (b1) (fun hHeld => ?_)
  refine pure_ (i := 0) (N := some 58) (v := ?_) (a' := ?_) #[true, false, false, false, false, false, false, false, false, false] rfl rfl (by kernel_rfl) (fun _ _ _ h => h) (Or.inl ⟨by rfl, ?_⟩) ?_ ?_
  rotate_left
  · intro w'
    go_simp
    with_reducible rfl
  rotate_left
  · simp only [Act.put, List.setIfInBounds_toArray, List.set_cons_zero, List.set_cons_succ, i64_w, i32_w]
    rfl
  refine pure_ (i := 1) (N := some 59) (v := ?_) (a' := ?_) #[true, true, false, false, false, false, false, false, false, false] rfl rfl (by kernel_rfl) (fun _ _ _ h => h) (Or.inl ⟨by rfl, ?_⟩) ?_ ?_
  rotate_left
  · intro w'
    go_simp
    with_reducible rfl
  rotate_left
  · simp only [Act.put, List.setIfInBounds_toArray, List.set_cons_zero, List.set_cons_succ, i64_w, i32_w]
    rfl
  refine pure_ (i := 4) (N := some 62) (v := ?_) (a' := ?_) #[true, true, false, false, true, false, false, false, false, false] rfl rfl (by kernel_rfl) (fun _ _ _ h => h) (Or.inl ⟨by rfl, ?_⟩) ?_ ?_
  rotate_left
  · intro w'
    go_simp
    with_reducible rfl
  rotate_left
  · simp only [Act.put, List.setIfInBounds_toArray, List.set_cons_zero, List.set_cons_succ, i64_w, i32_w]
    rfl
  refine pure_ (i := 5) (N := some 63) (v := ?_) (a' := ?_) #[true, true, false, false, true, true, false, false, false, false] rfl rfl (by kernel_rfl) (fun _ _ _ h => h) (Or.inl ⟨by rfl, ?_⟩) ?_ ?_
  rotate_left
  · intro w'
    go_simp
    with_reducible rfl
  rotate_left
  · simp only [Act.put, List.setIfInBounds_toArray, List.set_cons_zero, List.set_cons_succ, i64_w, i32_w]
    rfl
  refine take_ (i := 2) (N := some 60) (v := ?_) (a' := ?_) #[true, true, true, false, true, true, false, false, false, false] rfl rfl (by kernel_rfl) (fun _ _ _ h => h) (Or.inl ⟨by rfl, ?_⟩) hHeld ?_ ?_
  rotate_left
  · intro w' s0
    go_simp
    with_reducible rfl
  rotate_left
  · simp only [Act.put, List.setIfInBounds_toArray, List.set_cons_zero, List.set_cons_succ, i64_w, i32_w]
    rfl
  refine take_ (i := 6) (N := some 64) (v := ?_) (a' := ?_) #[true, true, true, false, true, true, true, false, false, false] rfl rfl (by kernel_rfl) (fun _ _ _ h => h) (Or.inl ⟨by rfl, ?_⟩) hHeld ?_ ?_
  rotate_left
  · intro w' s0
    go_simp
    with_reducible rfl
  rotate_left
  · simp only [Act.put, List.setIfInBounds_toArray, List.set_cons_zero, List.set_cons_succ, i64_w, i32_w]
    rfl
  refine one_ (i := 3) (N := some 61) #[true, true, true, true, true, true, true, false, false, false] rfl rfl (by kernel_rfl) (by decide) (fun K hK => ?_)
  refine goes_ Try.func22 (by kernel_rfl) rfl #[ptr p, .string x1] (by rfl) rfl rfl (by simp only [List.map_toArray, List.map_cons, List.map_nil]; rfl) ?_
  with_reducible refine (HH.out).mono ?_
  rintro e w5 ⟨rfl, hA5, hB5⟩
  refine ⟨_, rfl, ?_⟩
  obtain ⟨bx, -, -, -⟩ := hA5.box_cell (b := w.heap.size) (cs := #[.int .u8 x0, .string x1, .string x2, .slice A3 x3.length c3, .int .i64 x4, .slice A5 x5.length c5]) (t := 46) (by simp)
  have s1 : w5.cell? ⟨w.heap.size, 1, none⟩ = some (.string x1) := bx 1
  have HR5 := Aside0.mk (HRR.out w5 hA5)
  have HB5 := Aside0.mk (((below_drew HB1.out)).trans hB5)
  clear hA5 hB5 bx
  refine hK.out _ _ (s1) (fun hHeld => ?_)
  clear hK K
  refine norm_ (a' := ?_) ?_ ?_
  rotate_left
  · show Act.put _ (some 61) _ = _
    simp only [Act.put, List.setIfInBounds_toArray, List.set_cons_zero, List.set_cons_succ, i64_w, i32_w]
    rfl
  refine last_ (i := 7) (N := some 65) #[true, true, true, true, true, true, true, true, false, false] rfl rfl (by kernel_rfl) (by decide) (fun K hK => ?_)
  refine goes_ Try.func48 (by kernel_rfl) rfl #[ptr q, .string x1] (by rfl) rfl rfl (by simp only [List.map_toArray, List.map_cons, List.map_nil]; rfl) ?_
  with_reducible refine (HR5.out).mono ?_
  rintro e w6 ⟨Ms, rfl, hR6, hB6⟩
  refine ⟨_, rfl, ?_⟩
  refine hK.out _ _ ?_
  clear hK K
  refine norm_ (a' := ?_) ?_ ?_
  rotate_left
  · show Act.put _ (some 65) _ = _
    simp only [Act.put, List.setIfInBounds_toArray, List.set_cons_zero, List.set_cons_succ, i64_w, i32_w]
    rfl
  refine pure_ (i := 8) (N := some 66) (v := ?_) (a' := ?_) #[true, true, true, true, true, true, true, true, true, false] rfl rfl (by kernel_rfl) (fun _ _ _ h => h) (Or.inl ⟨by rfl, ?_⟩) ?_ ?_
  rotate_left
  · intro w'
    go_simp
    with_reducible rfl
  rotate_left
  · simp only [Act.put, List.setIfInBounds_toArray, List.set_cons_zero, List.set_cons_succ, i64_w, i32_w]
    rfl
  refine pure_ (i := 9) (N := some 6) (v := ?_) (a' := ?_) #[true, true, true, true, true, true, true, true, true, true] rfl rfl (by kernel_rfl) (fun _ _ _ h => h) (Or.inl ⟨by rfl, ?_⟩) ?_ ?_
  rotate_left
  · intro w'
    go_simp
    with_reducible rfl
  rotate_left
  · simp only [Act.put, List.setIfInBounds_toArray, List.set_cons_zero, List.set_cons_succ, i64_w, i32_w]
    rfl
  refine done_ (by kernel_rfl) ?_

  obtain ⟨v6, fs6, hA6, hf6⟩ := ref_out hR6 (marked_sto _ _ _ _ _)
  have HBO : Aside0 (Both B w6 p q r1) := ⟨v6, fs6, _, hA6, hf6⟩
  have HB6 := Aside0.mk (HB5.out.trans hB6)
  clear hR6 hA6 hf6 hB6
  go_wp2_with fail
  go_ret
  exact ⟨rfl, HBO.out, HB6.out⟩
set_option maxHeartbeats 8000000 in
set_option maxRecDepth 100000 in
theorem does_power {B : Nat} {w : World} {p q : Nat} {v : Value} {st : Stt} {fs : List FH} {Ns : List Th} {k : Nat} (h : Has B w (stoT p st :: refB q v st.left st.acts :: rowF v fs :: Ns)) (hf : FsOk st.L fs Ns) (hg : Fine st k) (hk : k < 1000) {x0 : Int} {x1 x2 : ByteArray} {x3 : List Int} {x4 : Int} {x5 : List Int} (h1 : x1.size ≤ 30000) (h2 : x2.size ≤ 30000) {A3 A5 : Option Addr} {c3 c5 : Nat} (hd : x0.tmod 10 = 8) :
    Calls Try.prog 27 #[ptr p, ptr q, .agg #[.int .u8 x0, .string x1, .string x2, .slice A3 x3.length c3, .int .i64 x4, .slice A5 x5.length c5]] w (DoesPost B w p q ⟨maxI x4 (-1), st.acts, st.L⟩) := by
  have hu46 := Try.underlying46
  have hok : OkS st := hg.ok (by omega)
  have hA1 : Has B (w.alloc (.cells #[.int .u8 x0, .string x1, .string x2, .slice A3 x3.length c3, .int .i64 x4, .slice A5 x5.length c5] 46)) (stoT p st :: refB q v st.left st.acts :: rowF v fs :: boxT w.heap.size #[.int .u8 x0, .string x1, .string x2, .slice A3 x3.length c3, .int .i64 x4, .slice A5 x5.length c5] 46 :: Ns) := (h.box #[.int .u8 x0, .string x1, .string x2, .slice A3 x3.length c3, .int .i64 x4, .slice A5 x5.length c5] 46).perm (List.perm_middle (l₁ := [_, _, _])).symm
  have hB1 : Below B w (w.alloc (.cells #[.int .u8 x0, .string x1, .string x2, .slice A3 x3.length c3, .int .i64 x4, .slice A5 x5.length c5] 46)) := (Below.refl _ _).alloc h.size _
  obtain ⟨bx, -, -, -⟩ := hA1.box_cell (b := w.heap.size) (cs := #[.int .u8 x0, .string x1, .string x2, .slice A3 x3.length c3, .int .i64 x4, .slice A5 x5.length c5]) (t := 46) (by simp)
  have HA1 := Aside0.mk hA1
  have HB1 := Aside0.mk hB1
  have hf1 : FsOk st.L fs (boxT w.heap.size #[.int .u8 x0, .string x1, .string x2, .slice A3 x3.length c3, .int .i64 x4, .slice A5 x5.length c5] 46 :: Ns) := hf.more fun T hT => List.mem_cons_of_mem _ hT
  have HF1 := Aside0.mk hf1
  have HG := Aside0.mk hg
  have HH := Aside0.mk (power_calls hA1 x4)
  have HRR : ∀ w2, Has B w2 (stoT p ⟨maxI x4 (-1), st.acts, st.L⟩ :: refB q v st.left st.acts :: rowF v fs :: boxT w.heap.size #[.int .u8 x0, .string x1, .string x2, .slice A3 x3.length c3, .int .i64 x4, .slice A5 x5.length c5] 46 :: Ns) → Calls Try.prog 49 #[ptr q, .int .i64 x4] w2 (RMeth B w2 q ⟨maxI x4 (-1), st.acts, st.L⟩ (.tuple #[]) (stoT p ⟨maxI x4 (-1), st.acts, st.L⟩ :: boxT w.heap.size #[.int .u8 x0, .string x1, .string x2, .slice A3 x3.length c3, .int .i64 x4, .slice A5 x5.length c5] 46 :: Ns)) := fun w2 hA => rpower_calls (ref_in hA HF1.out) x4
  have HRR := Aside0.mk HRR
  have b4 : (w.alloc (.cells #[.int .u8 x0, .string x1, .string x2, .slice A3 x3.length c3, .int .i64 x4, .slice A5 x5.length c5] 46)).cell? ⟨w.heap.size, 4, none⟩ = some (.int .i64 x4) := bx 4
  have e4 : (x0.tmod 10 == 4) = false := beq_eq_false_iff_ne.2 (by omega)
  have e5 : (x0.tmod 10 == 5) = false := beq_eq_false_iff_ne.2 (by omega)
  have e6 : (x0.tmod 10 == 6) = false := beq_eq_false_iff_ne.2 (by omega)
  have e7 : (x0.tmod 10 == 7) = false := beq_eq_false_iff_ne.2 (by omega)
  have e8 : (x0.tmod 10 == 8) = true := beq_iff_eq.2 hd
  clear hd h hf hA1 hB1 hf1 hg hok bx
  go_enter Try.func27, Try.ntmps27
  go_wp2_with fail
  refine HH.out.mono ?_
  rintro e w5 ⟨rfl, hA5, hB5⟩
  obtain ⟨bx, -, -, -⟩ := hA5.box_cell (b := w.heap.size) (cs := #[.int .u8 x0, .string x1, .string x2, .slice A3 x3.length c3, .int .i64 x4, .slice A5 x5.length c5]) (t := 46) (by simp)
  have s4 : w5.cell? ⟨w.heap.size, 4, none⟩ = some (.int .i64 x4) := bx 4
  have HR5 := Aside0.mk (HRR.out w5 hA5)
  have HB5 := Aside0.mk (HB1.out.trans hB5)
  clear hA5 hB5 bx
  go_wp2_with fail
  refine HR5.out.mono ?_
  rintro e w6 ⟨Ms, rfl, hR6, hB6⟩
  obtain ⟨v6, fs6, hA6, hf6⟩ := ref_out hR6 (marked_sto _ _ _ _ _)
  have HBO : Aside0 (Both B w6 p q ⟨maxI x4 (-1), st.acts, st.L⟩) := ⟨v6, fs6, _, hA6, hf6⟩
  have HB6 := Aside0.mk (HB5.out.trans hB6)
  clear hR6 hA6 hf6 hB6
  go_wp2_with fail
  go_ret
  exact ⟨rfl, HBO.out, HB6.out⟩
theorem lit_rowI0 {B : Nat} {w : World} {Ts : List Th} (h : Has B w Ts) : Has B (w.alloc (.cells #[] 3)) (rowT kI 3 (.slice (some ⟨w.heap.size, 0, none⟩) 0 0) [] :: Ts) :=
  h.row ((Below.refl _ w).alloc (Nat.le_refl _) _) ⟨fun _ _ => trivial, OwnRow.lit (ps := ([] : List Int)) w w.heap.size (inner := []) (Reps.none _ _) (Nat.le_refl _) (Nat.zero_le _)⟩
set_option maxHeartbeats 8000000 in
set_option maxRecDepth 100000 in
theorem does_crash {B : Nat} {w : World} {p q : Nat} {v : Value} {st : Stt} {fs : List FH} {Ns : List Th} {k : Nat} (h : Has B w (stoT p st :: refB q v st.left st.acts :: rowF v fs :: Ns)) (hf : FsOk st.L fs Ns) (hg : Fine st k) (hk : k < 1000) {x0 : Int} {x1 x2 : ByteArray} {x3 : List Int} {x4 : Int} {x5 : List Int} (h1 : x1.size ≤ 30000) (h2 : x2.size ≤ 30000) (hx5 : x5.length * 8 ≤ 140737488355328) {A3 A5 : Option Addr} {c3 c5 : Nat} (hK5 : ∀ w', Below B w w' → Kd.C kI w' A5 x5.length x5) (hd : x0.tmod 10 = 9) :
    Calls Try.prog 27 #[ptr p, ptr q, .agg #[.int .u8 x0, .string x1, .string x2, .slice A3 x3.length c3, .int .i64 x4, .slice A5 x5.length c5]] w (DoesPost B w p q (crashS st x5)) := by
  have hu46 := Try.underlying46
  have hok : OkS st := hg.ok (by omega)
  have hA1 : Has B (w.alloc (.cells #[.int .u8 x0, .string x1, .string x2, .slice A3 x3.length c3, .int .i64 x4, .slice A5 x5.length c5] 46)) (stoT p st :: refB q v st.left st.acts :: rowF v fs :: boxT w.heap.size #[.int .u8 x0, .string x1, .string x2, .slice A3 x3.length c3, .int .i64 x4, .slice A5 x5.length c5] 46 :: Ns) := (h.box #[.int .u8 x0, .string x1, .string x2, .slice A3 x3.length c3, .int .i64 x4, .slice A5 x5.length c5] 46).perm (List.perm_middle (l₁ := [_, _, _])).symm
  have hB1 : Below B w (w.alloc (.cells #[.int .u8 x0, .string x1, .string x2, .slice A3 x3.length c3, .int .i64 x4, .slice A5 x5.length c5] 46)) := (Below.refl _ _).alloc h.size _
  obtain ⟨bx, -, -, -⟩ := hA1.box_cell (b := w.heap.size) (cs := #[.int .u8 x0, .string x1, .string x2, .slice A3 x3.length c3, .int .i64 x4, .slice A5 x5.length c5]) (t := 46) (by simp)
  have HA1 := Aside0.mk hA1
  have HB1 := Aside0.mk hB1
  have hf1 : FsOk st.L fs (boxT w.heap.size #[.int .u8 x0, .string x1, .string x2, .slice A3 x3.length c3, .int .i64 x4, .slice A5 x5.length c5] 46 :: Ns) := hf.more fun T hT => List.mem_cons_of_mem _ hT
  have HF1 := Aside0.mk hf1
  have HG := Aside0.mk hg
  have HK5 := Aside0.mk hK5
  have HX5 := Aside0.mk hx5
  have HOK := Aside0.mk hok
  have b5 : (w.alloc (.cells #[.int .u8 x0, .string x1, .string x2, .slice A3 x3.length c3, .int .i64 x4, .slice A5 x5.length c5] 46)).cell? ⟨w.heap.size, 5, none⟩ = some (.slice A5 x5.length c5) := bx 5
  have hHE := lit_rowI0 hA1
  rw [World.size_alloc] at hHE
  have HE := Aside0.mk hHE
  have HC5 : Aside0 (Kd.C kI ((w.alloc (.cells #[.int .u8 x0, .string x1, .string x2, .slice A3 x3.length c3, .int .i64 x4, .slice A5 x5.length c5] 46)).alloc (.cells #[] 3)) A5 x5.length x5) := ⟨hK5 _ (hB1.alloc hA1.size _)⟩
  have HB2 := Aside0.mk (hB1.alloc hA1.size (.cells #[] 3))
  have e4 : (x0.tmod 10 == 4) = false := beq_eq_false_iff_ne.2 (by omega)
  have e5 : (x0.tmod 10 == 5) = false := beq_eq_false_iff_ne.2 (by omega)
  have e6 : (x0.tmod 10 == 6) = false := beq_eq_false_iff_ne.2 (by omega)
  have e7 : (x0.tmod 10 == 7) = false := beq_eq_false_iff_ne.2 (by omega)
  have e8 : (x0.tmod 10 == 8) = false := beq_eq_false_iff_ne.2 (by omega)
  have e9 : (x0.tmod 10 == 9) = true := beq_iff_eq.2 hd
  clear hd h hf hA1 hB1 hf1 hg hok bx hK5 hx5 hHE
  go_enter Try.func27, Try.ntmps27
  go_wp2_with (refine app_rows kI HE.out rfl _ _ 43 (.int .i64 0) 8 rfl Try.underlying43 inf3 rfl (by decide) (by decide) A5 c5 rfl rfl HC5.out (fun x cs hx => hx) (by show (0 + x5.length) * 8 ≤ 140737488355328; have := HX5.out; omega) ?_; rintro v4 w4 hA4 hB4; have hA4' : Has B w4 (rowT kI 3 v4 x5 :: stoT p st :: refB q v st.left st.acts :: rowF v fs :: boxT w.heap.size #[.int .u8 x0, .string x1, .string x2, .slice A3 x3.length c3, .int .i64 x4, .slice A5 x5.length c5] 46 :: Ns) := hA4; obtain ⟨A4, c4, rfl, -, -⟩ := hA4'.reads (d := kI) (e := 3) (v := v4) (xs := x5) (by simp); have HA4 := Aside0.mk hA4'.swap; have HB4 := Aside0.mk (HB2.out.trans hB4); clear hA4 hA4' hB4 HE HC5 HB2)
  have HCR := Aside0.mk (crash_calls HA4.out HOK.out HG.out.rise HG.out.safe (keep := x5) (Ak := A4) (ck := c4) (fun w' hA' _ => by
    obtain ⟨_, _, ev, -, hC⟩ := hA'.reads (d := kI) (e := 3) (v := .slice A4 x5.length c4) (xs := x5) (by simp)
    injection ev with e1 e2 e3
    subst e1
    exact hC))
  refine HCR.out.mono ?_
  rintro e w5 ⟨rfl, hA5, hB5⟩
  have hA5' := hA5.perm (List.Perm.cons _ (List.perm_middle (l₁ := [_, _]) (a := _)).symm)
  obtain ⟨bx, -, -, -⟩ := hA5.box_cell (b := w.heap.size) (cs := #[.int .u8 x0, .string x1, .string x2, .slice A3 x3.length c3, .int .i64 x4, .slice A5 x5.length c5]) (t := 46) (by simp)
  have s5 : w5.cell? ⟨w.heap.size, 5, none⟩ = some (.slice A5 x5.length c5) := bx 5
  have HB5 := Aside0.mk (HB4.out.trans hB5)
  have HR5 := Aside0.mk (rcrash_calls (keep := x5) (Ak := A5) (ck := c5) (ref_in hA5' (hf := HF1.out.more fun T hT => List.mem_cons_of_mem _ hT)) HG.out (fun w' hb => HK5.out w' (HB5.out.trans hb)))
  clear hA5 hB5 bx hA5' HCR HA4 HB4
  go_wp2_with fail
  refine HR5.out.mono ?_
  rintro e w6 ⟨Ms, rfl, hR6, hB6⟩
  obtain ⟨v6, fs6, hA6, hf6⟩ := ref_out hR6 (marked_sto _ _ _ _ _)
  have HBO : Aside0 (Both B w6 p q (crashS st x5)) := ⟨v6, fs6, _, hA6, hf6⟩
  have HB6 := Aside0.mk (HB5.out.trans hB6)
  clear hR6 hA6 hf6 hB6
  go_wp2_with fail
  go_ret
  exact ⟨rfl, HBO.out, HB6.out⟩
end Go.Proofs.Ytibnakpefjjoiaa.Fs
namespace Go.Proofs.Ytibnakpefjjoiaa.Fs
open Go.RowKit Go.Proofs.YtibnakpefjjoiaaW.PrintWords Go.Proofs.YtibnakpefjjoiaaW.PrintLast Go.Proofs.YtibnakpefjjoiaaW.PrintMore Go.Proofs.Ytibnakpefjjoiaa.Q Go.Proofs.Ytibnakpefjjoiaa.Own
set_option linter.unusedVariables false
set_option linter.unusedSimpArgs false
attribute [local go_sem ↓] Go.wp_at_zero Go.wp_at_succ

set_option maxHeartbeats 8000000 in
set_option maxRecDepth 100000 in
theorem does_append {B : Nat} {w : World} {p q : Nat} {v : Value} {st : Stt} {fs : List FH} {Ns : List Th} {k : Nat} (h : Has B w (stoT p st :: refB q v st.left st.acts :: rowF v fs :: Ns)) (hf : FsOk st.L fs Ns) (hg : Fine st k) (hk : k < 1000) {x0 : Int} {x1 x2 : ByteArray} {x3 : List Int} {x4 : Int} {x5 : List Int} (h1 : x1.size ≤ 30000) (h3 : x3.length ≤ 30000) {A3 A5 : Option Addr} {c3 c5 : Nat} (hK3 : ∀ w', Below B w w' → Kd.C kB w' A3 x3.length x3) (hd : ∀ j, 4 ≤ j → j ≤ 9 → ¬ x0.tmod 10 = j) :
    Calls Try.prog 27 #[ptr p, ptr q, .agg #[.int .u8 x0, .string x1, .string x2, .slice A3 x3.length c3, .int .i64 x4, .slice A5 x5.length c5]] w (DoesPost B w p q (appendS st x1 x3).2) := by
  have hu46 := Try.underlying46
  have hok : OkS st := hg.ok (by omega)
  have hA1 : Has B (w.alloc (.cells #[.int .u8 x0, .string x1, .string x2, .slice A3 x3.length c3, .int .i64 x4, .slice A5 x5.length c5] 46)) (stoT p st :: refB q v st.left st.acts :: rowF v fs :: boxT w.heap.size #[.int .u8 x0, .string x1, .string x2, .slice A3 x3.length c3, .int .i64 x4, .slice A5 x5.length c5] 46 :: Ns) := (h.box #[.int .u8 x0, .string x1, .string x2, .slice A3 x3.length c3, .int .i64 x4, .slice A5 x5.length c5] 46).perm (List.perm_middle (l₁ := [_, _, _])).symm
  have hB1 : Below B w (w.alloc (.cells #[.int .u8 x0, .string x1, .string x2, .slice A3 x3.length c3, .int .i64 x4, .slice A5 x5.length c5] 46)) := (Below.refl _ _).alloc h.size _
  obtain ⟨bx, -, -, -⟩ := hA1.box_cell (b := w.heap.size) (cs := #[.int .u8 x0, .string x1, .string x2, .slice A3 x3.length c3, .int .i64 x4, .slice A5 x5.length c5]) (t := 46) (by simp)
  have HF := Aside0.mk hf
  have HG := Aside0.mk hg
  have HOK := Aside0.mk hok
  have HK3 := Aside0.mk hK3
  have HN1 : Aside0 (x1.size ≤ 30000 ∧ x3.length ≤ 30000) := ⟨h1, h3⟩
  have b3 : (w.alloc (.cells #[.int .u8 x0, .string x1, .string x2, .slice A3 x3.length c3, .int .i64 x4, .slice A5 x5.length c5] 46)).cell? ⟨w.heap.size, 3, none⟩ = some (.slice A3 x3.length c3) := bx 3
  have hHE := lit_rowB0 hA1
  rw [World.size_alloc] at hHE
  have HE := Aside0.mk hHE
  have HC3 : Aside0 (Kd.C kB ((w.alloc (.cells #[.int .u8 x0, .string x1, .string x2, .slice A3 x3.length c3, .int .i64 x4, .slice A5 x5.length c5] 46)).alloc (.cells #[] 5)) A3 x3.length x3) := ⟨hK3 _ (hB1.alloc hA1.size _)⟩
  have HB2 := Aside0.mk (hB1.alloc hA1.size (.cells #[] 5))
  have e4 : (x0.tmod 10 == 4) = false := beq_eq_false_iff_ne.2 (hd 4 (by omega) (by omega))
  have e5 : (x0.tmod 10 == 5) = false := beq_eq_false_iff_ne.2 (hd 5 (by omega) (by omega))
  have e6 : (x0.tmod 10 == 6) = false := beq_eq_false_iff_ne.2 (hd 6 (by omega) (by omega))
  have e7 : (x0.tmod 10 == 7) = false := beq_eq_false_iff_ne.2 (hd 7 (by omega) (by omega))
  have e8 : (x0.tmod 10 == 8) = false := beq_eq_false_iff_ne.2 (hd 8 (by omega) (by omega))
  have e9 : (x0.tmod 10 == 9) = false := beq_eq_false_iff_ne.2 (hd 9 (by omega) (by omega))
  clear hd h hf hA1 hB1 hg hok bx hK3 hHE h1 h3
  go_enter Try.func27, Try.ntmps27
  go_wp2_with (refine app_rows kB HE.out rfl _ _ 23 (.int .u8 0) 1 rfl Try.underlying23 inf5 rfl (by decide) (by decide) A3 c3 rfl rfl HC3.out (fun x cs hx => mk_u8 hx) (by show (0 + x3.length) * 1 ≤ 140737488355328; have := HN1.out.2; omega) ?_; rintro v4 w4 hA4 hB4; have hA4' : Has B w4 (rowB v4 x3 :: stoT p st :: refB q v st.left st.acts :: rowF v fs :: boxT w.heap.size #[.int .u8 x0, .string x1, .string x2, .slice A3 x3.length c3, .int .i64 x4, .slice A5 x5.length c5] 46 :: Ns) := hA4; obtain ⟨A4, c4, rfl, -, -⟩ := hA4'.reads (d := kB) (e := 5) (v := v4) (xs := x3) (by simp); obtain ⟨bx, -, -, -⟩ := hA4'.box_cell (b := w.heap.size) (cs := #[.int .u8 x0, .string x1, .string x2, .slice A3 x3.length c3, .int .i64 x4, .slice A5 x5.length c5]) (t := 46) (by simp); have s1 : w4.cell? ⟨w.heap.size, 1, none⟩ = some (.string x1) := bx 1; have HA4 := Aside0.mk hA4'.swap; have HB4 := Aside0.mk (HB2.out.trans hB4); clear hA4 hA4' hB4 HE HC3 HB2 bx b3)
  have HAP := Aside0.mk (append_calls HA4.out HOK.out (s := x1) (by have := HN1.out.1; omega) (A2 := A4) (c2 := c4) (ys := x3) (by
    obtain ⟨_, _, ev, -, hC⟩ := HA4.out.reads (d := kB) (e := 5) (v := .slice A4 x3.length c4) (xs := x3) (by simp)
    injection ev with e1 e2 e3
    subst e1
    exact hC) (by have := HN1.out.2; omega))
  have HRR : ∀ w2, Has B w2 (stoT p (appendS st x1 x3).2 :: rowB (.slice A4 x3.length c4) x3 :: refB q v st.left st.acts :: rowF v fs :: boxT w.heap.size #[.int .u8 x0, .string x1, .string x2, .slice A3 x3.length c3, .int .i64 x4, .slice A5 x5.length c5] 46 :: Ns) → Below B w w2 → Calls Try.prog 51 #[ptr q, .string x1, .slice A3 x3.length c3] w2 (RMeth B w2 q (appendS st x1 x3).2 (.int .i64 (appendS st x1 x3).1) (pairT (boxT w.heap.size #[.int .u8 x0, .string x1, .string x2, .slice A3 x3.length c3, .int .i64 x4, .slice A5 x5.length c5] 46) (rowB (.slice A4 x3.length c4) x3) :: stoT p (appendS st x1 x3).2 :: Ns)) := fun w2 hA hb => by
    have hA2 : Has B w2 (boxT w.heap.size #[.int .u8 x0, .string x1, .string x2, .slice A3 x3.length c3, .int .i64 x4, .slice A5 x5.length c5] 46 :: rowB (.slice A4 x3.length c4) x3 :: stoT p (appendS st x1 x3).2 :: refB q v st.left st.acts :: rowF v fs :: Ns) := (hA.perm (List.perm_middle (l₁ := [_, _, _, _]))).perm (List.Perm.cons _ (List.Perm.swap _ _ _))
    have hA3 : Has B w2 (pairT (boxT w.heap.size #[.int .u8 x0, .string x1, .string x2, .slice A3 x3.length c3, .int .i64 x4, .slice A5 x5.length c5] 46) (rowB (.slice A4 x3.length c4) x3) :: refB q v st.left st.acts :: rowF v fs :: stoT p (appendS st x1 x3).2 :: Ns) := (has_pair hA2).perm (List.Perm.cons _ ((List.perm_append_comm (l₁ := [_]) (l₂ := [_, _])).append_right _))
    exact rappend_calls (ref_in hA3 (HF.out.more fun T hT => List.mem_cons_of_mem _ hT)) HG.out (by omega) (by have := HN1.out.1; omega) (fun w' hb' => HK3.out w' (hb.trans hb')) (by have := HN1.out.2; omega)
  have HRR := Aside0.mk HRR
  generalize hr : appendS st x1 x3 = r at HAP HRR
  obtain ⟨r0, r1⟩ := r
  have HRS := Aside0.mk hr
  clear hr
  dsimp only at HAP HRR
  refine HAP.out.mono ?_
  rintro e w5 ⟨rfl, hA5, hB5⟩
  dsimp only at hA5
  obtain ⟨bx, -, -, -⟩ := hA5.box_cell (b := w.heap.size) (cs := #[.int .u8 x0, .string x1, .string x2, .slice A3 x3.length c3, .int .i64 x4, .slice A5 x5.length c5]) (t := 46) (by simp)
  have s1' : w5.cell? ⟨w.heap.size, 1, none⟩ = some (.string x1) := bx 1
  have s3' : w5.cell? ⟨w.heap.size, 3, none⟩ = some (.slice A3 x3.length c3) := bx 3
  have HB5 := Aside0.mk (HB4.out.trans hB5)
  have HR5 := Aside0.mk (HRR.out w5 hA5 HB5.out)
  clear hA5 hB5 bx HAP HRR HA4 HB4 s1
  go_wp2_with fail
  refine HR5.out.mono ?_
  rintro e w6 ⟨Ms, rfl, hR6, hB6⟩
  obtain ⟨v6, fs6, hA6, hf6⟩ := ref_out hR6 (marked_pair (by decide) _)
  have hA6 := has_unpair hA6
  have hA7 : Has B w6 (rowB (.slice A4 x3.length c4) x3 :: stoT p r1 :: refB q v6 r1.left r1.acts :: rowF v6 fs6 :: boxT w.heap.size #[.int .u8 x0, .string x1, .string x2, .slice A3 x3.length c3, .int .i64 x4, .slice A5 x5.length c5] 46 :: (Ms ++ Ns)) := hA6.perm (((List.Perm.swap _ _ _).trans (List.Perm.cons _ (((List.Perm.cons _ (List.Perm.cons _ (List.Perm.cons _ List.perm_middle))).trans (List.perm_middle (l₁ := [_, _, _]))).trans (List.Perm.cons _ (List.perm_middle (l₁ := [_, _]) (a := _)).symm)))))
  obtain ⟨F, hon, -⟩ := hA7.swap.head
  have HF6 := Aside0.mk (hf6.drop (marked_sto _ _ _ _ _) hon)
  have HA7 := Aside0.mk hA7
  have HB6 := Aside0.mk (HB5.out.trans hB6)
  obtain ⟨n, hn⟩ : ∃ n, x3.length = n := ⟨_, rfl⟩
  have HLN := Aside0.mk hn
  rw [hn] at HA7
  have hn3 : n ≤ 30000 := by have := HN1.out.2; omega
  clear hR6 hA6 hf6 hB6 hA7 HR5 HB5 s1' s3' hon
  go_wp2_with fail
  clear hn
  go_loopw [11] (fun i wr => ∃ (j : Nat) (xs : List Int), i = .int .i64 j ∧ j ≤ n ∧ xs.length = n ∧ Aside0 (Has B wr (rowB (.slice A4 n c4) xs :: stoT p r1 :: refB q v6 r1.left r1.acts :: rowF v6 fs6 :: boxT w.heap.size #[.int .u8 x0, .string x1, .string x2, .slice A3 n c3, .int .i64 x4, .slice A5 x5.length c5] 46 :: (Ms ++ Ns))) ∧ Aside0 (Below B w wr)) (fun i _ => n - (intOf i).toNat)
  case atStart => exact ⟨0, x3, rfl, by omega, HLN.out, HA7, HB6⟩
  case round =>
    clear HA7 HB6
    obtain ⟨j, xs, rfl, hj, hxs, HA, HB⟩ := hrel
    by_cases hlt : j < n
    · have d1 : decide ((j : Int) < (n : Int)) = true := decide_eq_true (by omega)
      have d2 : decide (0 ≤ (j : Int)) = true := decide_eq_true (by omega)
      have ej : wrap64 ((j : Int) + 1) = ((j + 1 : Nat) : Int) := wrap_nat (by omega)
      obtain ⟨_, _, ev, -, hC⟩ := HA.out.reads (d := kB) (e := 5) (v := .slice A4 n c4) (xs := xs) (by simp)
      obtain ⟨rfl, -, rfl⟩ : A4 = _ ∧ _ ∧ c4 = _ := by injection ev with e1 e2 e3; exact ⟨e1, e2, e3⟩
      obtain ⟨ad, rfl, q0⟩ := at_B hC j (by omega)
      have HPB := Aside0.mk (fun z => row_putB HA.out j (by omega) z)
      have fz := (row_putB HA.out j (by omega) 0).2.2
      clear ev hC
      go_wp2_with fail
      go_roundw
      case rel => exact ⟨j + 1, xs.set j _, by first | rfl | rw [ej], by omega, by rw [List.length_set]; exact hxs, ⟨(HPB.out _).1⟩, ⟨HB.out.trans (HPB.out _).2.1⟩⟩
      case measure => first | (simp [intOf]; omega) | (rw [ej]; simp [intOf]; omega)
    · have d1 : decide ((j : Int) < (n : Int)) = false := decide_eq_false (by omega)
      have HBO : Aside0 (Both B wr p q r1) := ⟨v6, fs6, _, HA.out.perm (List.perm_middle (l₁ := [_, _, _])).symm, HF6.out.more fun T hT => List.mem_cons_of_mem _ (List.mem_cons_of_mem _ hT)⟩
      go_wp2_with fail
      go_ret
      exact ⟨rfl, by rw [HRS.out]; exact HBO.out, HB.out⟩
end Go.Proofs.Ytibnakpefjjoiaa.Fs
namespace Go.Proofs.Ytibnakpefjjoiaa.Fs
open Go.RowKit Go.Proofs.YtibnakpefjjoiaaW.PrintWords Go.Proofs.YtibnakpefjjoiaaW.PrintLast Go.Proofs.YtibnakpefjjoiaaW.PrintMore Go.Proofs.Ytibnakpefjjoiaa.Q Go.Proofs.Ytibnakpefjjoiaa.Own
set_option linter.unusedVariables false
set_option linter.unusedSimpArgs false
attribute [local go_sem ↓] Go.wp_at_zero Go.wp_at_succ

theorem has_only {B : Nat} {w : World} {T : Th} {Ts : List Th} (h : Has B w (T :: Ts)) : Has B w [T] := by
  obtain ⟨h0, F, h1, h2, -⟩ := h
  exact ⟨h0, F, h1, h2, trivial⟩
theorem get_reads {B : Nat} {w : World} {Ts : List Th} (h : Has B w Ts) {st : Stt} {s : ByteArray} {A : Option Addr} {c : Nat} (hm : toldE st s = 0 → rowB (.slice A (toldX st s).f1.length c) (toldX st s).f1 ∈ Ts) : Kd.C kB w A (toldX st s).f1.length (toldX st s).f1 := by
  by_cases he : toldE st s = 0
  · obtain ⟨_, _, ev, -, hC⟩ := h.reads (d := kB) (e := 5) (hm he)
    injection ev with e1 e2 e3
    subst e1
    exact hC
  · rw [told_no he]
    exact ⟨rfl, by show (0 : Nat) ≤ _; omega, fun q => absurd q (by show ¬ 0 < 0; omega)⟩
set_option maxHeartbeats 8000000 in
set_option maxRecDepth 100000 in
theorem alike_calls {B : Nat} {w : World} {p q : Nat} {v : Value} {st : Stt} {fs : List FH} {Ns : List Th} {k : Nat} (h : Has B w (stoT p st :: refB q v st.left st.acts :: rowF v fs :: Ns)) (hf : FsOk st.L fs Ns) (hg : Fine st k) (hk : k < 1000) :
    Calls Try.prog 26 #[ptr p, ptr q] w (DoesPost B w p q st) := by
  have hu56 := Try.underlying56
  obtain ⟨A, c, rfl, -, -⟩ := h.reads (d := kF) (e := 56) (v := v) (xs := fs) (by simp)
  have hfl := hf.1
  rw [hfl] at h
  have hok : OkS st := hg.ok (by omega)
  have hL : st.L.length ≤ 64 := hg.n
  have HF := Aside0.mk hf
  have HG := Aside0.mk hg
  have HOK := Aside0.mk hok
  have HNM := Aside0.mk (names_calls h hok)
  have hnl : (namesL st).length = st.L.length := by unfold namesL; rw [List.length_map]
  have HA0 := Aside0.mk h
  clear h hf hg hok hfl
  go_enter Try.func26, Try.ntmps26
  go_wp2_with fail
  refine HNM.out.mono ?_
  rintro e w2 ⟨vn, rfl, hR, hb⟩
  obtain ⟨An, cn, rfl, -, -⟩ := Kd.R_reads hR
  have HA2 : Aside0 (Has B w2 (stoT p st :: refB q (.slice A st.L.length c) st.left st.acts :: rowF (.slice A st.L.length c) fs :: rowS (.slice An (namesL st).length cn) (namesL st) :: Ns)) := ⟨(HA0.out.row hb hR).perm (List.perm_middle (l₁ := [_, _, _])).symm⟩
  have HB2 := Aside0.mk (hb.mono HA0.out.size)
  clear hR hb HNM HA0
  generalize hns : namesL st = ns at HA2 hnl
  have HNS := Aside0.mk hns
  clear hns
  rw [hnl] at HA2 ⊢
  obtain ⟨c0, -, c2, -⟩ := ref_cells HA2.out (q := q) (v := .slice A st.L.length c) (left := st.left) (acts := st.acts) (by simp)
  have HDD := Aside0.mk (dead_calls HA2.out.drew)
  have HRD := Aside0.mk (rdead_calls HA2.out.drew (q := q) (v := .slice A st.L.length c) (left := st.left) (acts := st.acts) (by simp))
  have HAC := Aside0.mk (acts_calls HA2.out.drew)
  generalize (st.left == 0) = dd at HDD HRD
  have t1 : (dd != dd) = false := by cases dd <;> rfl
  have t2 : (dd == dd) = true := by cases dd <;> rfl
  go_wp2_with fail
  refine start_ (n := 24) (S := fun w' => w'.cell? ⟨q, 0, none⟩ = some (.slice A st.L.length c) ∧ w'.cell? ⟨q, 2, none⟩ = some (.int .i64 st.acts)) (ds := []) #[false, false, false, false, false, false, false, false, false, false, false, false, false, false, false, false, false, false, false, false, false, false, false, false] (by kernel_rfl) rfl rfl ⟨c0, c2⟩ (fun hHeld => ?_)
  refine pure_ (i := 0) (N := some 18) (v := ?_) (a' := ?_) #[true, false, false, false, false, false, false, false, false, false, false, false, false, false, false, false, false, false, false, false, false, false, false, false] rfl rfl (by kernel_rfl) (fun _ _ _ h => h) (Or.inl ⟨by rfl, ?_⟩) ?_ ?_
  rotate_left
  · intro w'
    go_simp
    with_reducible rfl
  rotate_left
  · simp only [Act.put, List.setIfInBounds_toArray, List.set_cons_zero, List.set_cons_succ, i64_w, i32_w]
    rfl
  refine pure_ (i := 1) (N := some 19) (v := ?_) (a' := ?_) #[true, true, false, false, false, false, false, false, false, false, false, false, false, false, false, false, false, false, false, false, false, false, false, false] rfl rfl (by kernel_rfl) (fun _ _ _ h => h) (Or.inl ⟨by rfl, ?_⟩) ?_ ?_
  rotate_left
  · intro w'
    go_simp
    with_reducible rfl
  rotate_left
  · simp only [Act.put, List.setIfInBounds_toArray, List.set_cons_zero, List.set_cons_succ, i64_w, i32_w]
    rfl
  refine pure_ (i := 2) (N := some 20) (v := ?_) (a' := ?_) #[true, true, true, false, false, false, false, false, false, false, false, false, false, false, false, false, false, false, false, false, false, false, false, false] rfl rfl (by kernel_rfl) (fun _ _ _ h => h) (Or.inl ⟨by rfl, ?_⟩) ?_ ?_
  rotate_left
  · intro w'
    go_simp
    with_reducible rfl
  rotate_left
  · simp only [Act.put, List.setIfInBounds_toArray, List.set_cons_zero, List.set_cons_succ, i64_w, i32_w]
    rfl
  refine pure_ (i := 3) (N := some 21) (v := ?_) (a' := ?_) #[true, true, true, true, false, false, false, false, false, false, false, false, false, false, false, false, false, false, false, false, false, false, false, false] rfl rfl (by kernel_rfl) (fun _ _ _ h => h) (Or.inl ⟨by rfl, ?_⟩) ?_ ?_
  rotate_left
  · intro w'
    go_simp
    with_reducible rfl
  rotate_left
  · simp only [Act.put, List.setIfInBounds_toArray, List.set_cons_zero, List.set_cons_succ, i64_w, i32_w]
    rfl
  refine pure_ (i := 4) (N := some 22) (v := ?_) (a' := ?_) #[true, true, true, true, true, false, false, false, false, false, false, false, false, false, false, false, false, false, false, false, false, false, false, false] rfl rfl (by kernel_rfl) (fun _ _ _ h => h) (Or.inl ⟨by rfl, ?_⟩) ?_ ?_
  rotate_left
  · intro w'
    go_simp
    with_reducible rfl
  rotate_left
  · simp only [Act.put, List.setIfInBounds_toArray, List.set_cons_zero, List.set_cons_succ, i64_w, i32_w]
    rfl
  refine take_ (i := 5) (N := some 23) (v := ?_) (a' := ?_) #[true, true, true, true, true, true, false, false, false, false, false, false, false, false, false, false, false, false, false, false, false, false, false, false] rfl rfl (by kernel_rfl) (fun _ _ _ h => h) (Or.inl ⟨by rfl, ?_⟩) hHeld ?_ ?_
  rotate_left
  · rintro w' ⟨s0, s1⟩
    go_simp
    with_reducible rfl
  rotate_left
  · simp only [Act.put, List.setIfInBounds_toArray, List.set_cons_zero, List.set_cons_succ, i64_w, i32_w]
    rfl
  refine pure_ (i := 6) (N := some 24) (v := ?_) (a' := ?_) #[true, true, true, true, true, true, true, false, false, false, false, false, false, false, false, false, false, false, false, false, false, false, false, false] rfl rfl (by kernel_rfl) (fun _ _ _ h => h) (Or.inl ⟨by rfl, ?_⟩) ?_ ?_
  rotate_left
  · intro w'
    go_simp
    with_reducible rfl
  rotate_left
  · simp only [Act.put, List.setIfInBounds_toArray, List.set_cons_zero, List.set_cons_succ, i64_w, i32_w]
    rfl
  refine pure_ (i := 7) (N := some 25) (v := ?_) (a' := ?_) #[true, true, true, true, true, true, true, true, false, false, false, false, false, false, false, false, false, false, false, false, false, false, false, false] rfl rfl (by kernel_rfl) (fun _ _ _ h => h) (Or.inl ⟨by rfl, ?_⟩) ?_ ?_
  rotate_left
  · intro w'
    go_simp
    with_reducible rfl
  rotate_left
  · simp only [Act.put, List.setIfInBounds_toArray, List.set_cons_zero, List.set_cons_succ, i64_w, i32_w]
    rfl
  refine pure_ (i := 8) (N := some 26) (v := ?_) (a' := ?_) #[true, true, true, true, true, true, true, true, true, false, false, false, false, false, false, false, false, false, false, false, false, false, false, false] rfl rfl (by kernel_rfl) (fun _ _ _ h => h) (Or.inl ⟨by rfl, ?_⟩) ?_ ?_
  rotate_left
  · intro w'
    go_simp
    with_reducible rfl
  rotate_left
  · simp only [Act.put, List.setIfInBounds_toArray, List.set_cons_zero, List.set_cons_succ, i64_w, i32_w]
    rfl
  refine pure_ (i := 9) (N := some 27) (v := ?_) (a' := ?_) #[true, true, true, true, true, true, true, true, true, true, false, false, false, false, false, false, false, false, false, false, false, false, false, false] rfl rfl (by kernel_rfl) (fun _ _ _ h => h) (Or.inl ⟨by rfl, ?_⟩) ?_ ?_
  rotate_left
  · intro w'
    go_simp
    with_reducible rfl
  rotate_left
  · simp only [Act.put, List.setIfInBounds_toArray, List.set_cons_zero, List.set_cons_succ, i64_w, i32_w]
    rfl
  refine pure_ (i := 11) (N := some 29) (v := ?_) (a' := ?_) #[true, true, true, true, true, true, true, true, true, true, false, true, false, false, false, false, false, false, false, false, false, false, false, false] rfl rfl (by kernel_rfl) (fun _ _ _ h => h) (Or.inl ⟨by rfl, ?_⟩) ?_ ?_
  rotate_left
  · intro w'
    go_simp
    with_reducible rfl
  rotate_left
  · simp only [Act.put, List.setIfInBounds_toArray, List.set_cons_zero, List.set_cons_succ, i64_w, i32_w]
    rfl
  refine one_ (i := 10) (N := some 28) #[true, true, true, true, true, true, true, true, true, true, true, true, false, false, false, false, false, false, false, false, false, false, false, false] rfl rfl (by kernel_rfl) (by decide) (fun K hK => ?_)
  refine goes_ Try.func19 (by kernel_rfl) rfl #[ptr p] (by rfl) rfl rfl (by simp only [List.map_toArray, List.map_cons, List.map_nil]; rfl) ?_
  with_reducible refine (HDD.out).mono ?_
  rintro e w5 ⟨rfl, rfl⟩
  refine ⟨_, rfl, ?_⟩
  refine hK.out _ _ ⟨c0, c2⟩ (fun hHeld => ?_)
  clear hK K
  refine norm_ (a' := ?_) ?_ ?_
  rotate_left
  · show Act.put _ (some 28) _ = _
    simp only [Act.put, List.setIfInBounds_toArray, List.set_cons_zero, List.set_cons_succ, i64_w, i32_w]
    rfl
  refine one_ (i := 12) (N := some 30) #[true, true, true, true, true, true, true, true, true, true, true, true, true, false, false, false, false, false, false, false, false, false, false, false] rfl rfl (by kernel_rfl) (by decide) (fun K hK => ?_)
  refine goes_ Try.func44 (by kernel_rfl) rfl #[ptr q] (by rfl) rfl rfl (by simp only [List.map_toArray, List.map_cons, List.map_nil]; rfl) ?_
  with_reducible refine (HRD.out).mono ?_
  rintro e w5 ⟨rfl, rfl⟩
  refine ⟨_, rfl, ?_⟩
  refine hK.out _ _ ⟨c0, c2⟩ (fun hHeld => ?_)
  clear hK K
  refine norm_ (a' := ?_) ?_ ?_
  rotate_left
  · show Act.put _ (some 30) _ = _
    simp only [Act.put, List.setIfInBounds_toArray, List.set_cons_zero, List.set_cons_succ, i64_w, i32_w]
    rfl
  refine pure_ (i := 13) (N := some 31) (v := ?_) (a' := ?_) #[true, true, true, true, true, true, true, true, true, true, true, true, true, true, false, false, false, false, false, false, false, false, false, false] rfl rfl (by kernel_rfl) (fun _ _ _ h => h) (Or.inl ⟨by rfl, ?_⟩) ?_ ?_
  rotate_left
  · intro w'
    go_simp
    with_reducible rfl
  rotate_left
  · simp only [Act.put, List.setIfInBounds_toArray, List.set_cons_zero, List.set_cons_succ, i64_w, i32_w]
    rfl
  refine pure_ (i := 14) (N := some 32) (v := ?_) (a' := ?_) #[true, true, true, true, true, true, true, true, true, true, true, true, true, true, true, false, false, false, false, false, false, false, false, false] rfl rfl (by kernel_rfl) (fun _ _ _ h => h) (Or.inl ⟨by rfl, ?_⟩) ?_ ?_
  rotate_left
  · intro w'
    go_simp
    with_reducible rfl
  rotate_left
  · simp only [Act.put, List.setIfInBounds_toArray, List.set_cons_zero, List.set_cons_succ, i64_w, i32_w]
    rfl
  refine pure_ (i := 15) (N := some 33) (v := ?_) (a' := ?_) #[true, true, true, true, true, true, true, true, true, true, true, true, true, true, true, true, false, false, false, false, false, false, false, false] rfl rfl (by kernel_rfl) (fun _ _ _ h => h) (Or.inl ⟨by rfl, ?_⟩) ?_ ?_
  rotate_left
  · intro w'
    go_simp
    with_reducible rfl
  rotate_left
  · simp only [Act.put, List.setIfInBounds_toArray, List.set_cons_zero, List.set_cons_succ, i64_w, i32_w]
    rfl
  refine pure_ (i := 16) (N := some 34) (v := ?_) (a' := ?_) #[true, true, true, true, true, true, true, true, true, true, true, true, true, true, true, true, true, false, false, false, false, false, false, false] rfl rfl (by kernel_rfl) (fun _ _ _ h => h) (Or.inl ⟨by rfl, ?_⟩) ?_ ?_
  rotate_left
  · intro w'
    go_simp
    with_reducible rfl
  rotate_left
  · simp only [Act.put, List.setIfInBounds_toArray, List.set_cons_zero, List.set_cons_succ, i64_w, i32_w]
    rfl
  refine pure_ (i := 18) (N := some 36) (v := ?_) (a' := ?_) #[true, true, true, true, true, true, true, true, true, true, true, true, true, true, true, true, true, false, true, false, false, false, false, false] rfl rfl (by kernel_rfl) (fun _ _ _ h => h) (Or.inl ⟨by rfl, ?_⟩) ?_ ?_
  rotate_left
  · intro w'
    go_simp
    with_reducible rfl
  rotate_left
  · simp only [Act.put, List.setIfInBounds_toArray, List.set_cons_zero, List.set_cons_succ, i64_w, i32_w]
    rfl
  refine pure_ (i := 19) (N := some 37) (v := ?_) (a' := ?_) #[true, true, true, true, true, true, true, true, true, true, true, true, true, true, true, true, true, false, true, true, false, false, false, false] rfl rfl (by kernel_rfl) (fun _ _ _ h => h) (Or.inl ⟨by rfl, ?_⟩) ?_ ?_
  rotate_left
  · intro w'
    go_simp
    with_reducible rfl
  rotate_left
  · simp only [Act.put, List.setIfInBounds_toArray, List.set_cons_zero, List.set_cons_succ, i64_w, i32_w]
    rfl
  refine pure_ (i := 20) (N := some 38) (v := ?_) (a' := ?_) #[true, true, true, true, true, true, true, true, true, true, true, true, true, true, true, true, true, false, true, true, true, false, false, false] rfl rfl (by kernel_rfl) (fun _ _ _ h => h) (Or.inl ⟨by rfl, ?_⟩) ?_ ?_
  rotate_left
  · intro w'
    go_simp
    with_reducible rfl
  rotate_left
  · simp only [Act.put, List.setIfInBounds_toArray, List.set_cons_zero, List.set_cons_succ, i64_w, i32_w]
    rfl
  refine take_ (i := 21) (N := some 39) (v := ?_) (a' := ?_) #[true, true, true, true, true, true, true, true, true, true, true, true, true, true, true, true, true, false, true, true, true, true, false, false] rfl rfl (by kernel_rfl) (fun _ _ _ h => h) (Or.inl ⟨by rfl, ?_⟩) hHeld ?_ ?_
  rotate_left
  · rintro w' ⟨s0, s1⟩
    go_simp
    with_reducible rfl
  rotate_left
  · simp only [Act.put, List.setIfInBounds_toArray, List.set_cons_zero, List.set_cons_succ, i64_w, i32_w]
    rfl
  refine one_ (i := 17) (N := some 35) #[true, true, true, true, true, true, true, true, true, true, true, true, true, true, true, true, true, true, true, true, true, true, false, false] rfl rfl (by kernel_rfl) (by decide) (fun K hK => ?_)
  refine goes_ Try.func15 (by kernel_rfl) rfl #[ptr p] (by rfl) rfl rfl (by simp only [List.map_toArray, List.map_cons, List.map_nil]; rfl) ?_
  with_reducible refine (HAC.out).mono ?_
  rintro e w5 ⟨rfl, rfl⟩
  refine ⟨_, rfl, ?_⟩
  refine hK.out _ _ ⟨c0, c2⟩ (fun hHeld => ?_)
  clear hK K
  refine norm_ (a' := ?_) ?_ ?_
  rotate_left
  · show Act.put _ (some 35) _ = _
    simp only [Act.put, List.setIfInBounds_toArray, List.set_cons_zero, List.set_cons_succ, i64_w, i32_w]
    rfl
  refine pure_ (i := 22) (N := some 40) (v := ?_) (a' := ?_) #[true, true, true, true, true, true, true, true, true, true, true, true, true, true, true, true, true, true, true, true, true, true, true, false] rfl rfl (by kernel_rfl) (fun _ _ _ h => h) (Or.inl ⟨by rfl, ?_⟩) ?_ ?_
  rotate_left
  · intro w'
    go_simp
    with_reducible rfl
  rotate_left
  · simp only [Act.put, List.setIfInBounds_toArray, List.set_cons_zero, List.set_cons_succ, i64_w, i32_w]
    rfl
  refine pure_ (i := 23) (N := some 41) (v := ?_) (a' := ?_) #[true, true, true, true, true, true, true, true, true, true, true, true, true, true, true, true, true, true, true, true, true, true, true, true] rfl rfl (by kernel_rfl) (fun _ _ _ h => h) (Or.inl ⟨by rfl, ?_⟩) ?_ ?_
  rotate_left
  · intro w'
    go_simp
    with_reducible rfl
  rotate_left
  · simp only [Act.put, List.setIfInBounds_toArray, List.set_cons_zero, List.set_cons_succ, i64_w, i32_w]
    rfl
  refine done_ (by kernel_rfl) ?_

  have HA3 := Aside0.mk HA2.out.drew
  have HB3 := Aside0.mk (below_drew HB2.out)
  clear HDD HRD HAC c0 c2 HA2 HB2 t1 t2
  generalize w2.drew = w3 at HA3 HB3 ⊢
  go_wp2_with fail
  go_loopw [6] (fun i wr => ∃ k : Nat, i = .int .i64 k ∧ k ≤ st.L.length ∧ Aside0 (Has B wr (stoT p st :: refB q (.slice A st.L.length c) st.left st.acts :: rowF (.slice A st.L.length c) fs :: rowS (.slice An st.L.length cn) ns :: Ns)) ∧ Aside0 (Below B w wr)) (fun i _ => st.L.length - (intOf i).toNat)
  case atStart => exact ⟨0, rfl, by omega, HA3, HB3⟩
  case round =>
    clear HA3 HB3
    obtain ⟨k, rfl, hk, HA, HB⟩ := hrel
    by_cases hlt : k < st.L.length
    · have d1 : decide ((k : Int) < (st.L.length : Int)) = true := decide_eq_true (by omega)
      have d2 : decide (0 ≤ (k : Int)) = true := decide_eq_true (by omega)
      have ek : wrap64 ((k : Int) + 1) = ((k + 1 : Nat) : Int) := wrap_nat (by omega)
      obtain ⟨c0, -, -, -⟩ := ref_cells HA.out (q := q) (v := .slice A st.L.length c) (left := st.left) (acts := st.acts) (by simp)
      obtain ⟨A', c', hx, hmem⟩ := HF.out.2 k hlt
      obtain ⟨_, _, ev, -, hC⟩ := HA.out.reads (d := kF) (e := 56) (v := .slice A st.L.length c) (xs := fs) (by simp)
      obtain ⟨rfl, -, rfl⟩ : A = _ ∧ _ ∧ c = _ := by injection ev with e1 e2 e3; exact ⟨e1, e2, e3⟩
      obtain ⟨ad, rfl, q0, -, -⟩ := at_F hC k hx
      have hkn : k < ns.length := by rw [hnl]; exact hlt
      obtain ⟨_, _, ev2, -, hCn⟩ := HA.out.reads (d := Kd.string) (e := 9) (v := .slice An st.L.length cn) (xs := ns) (by simp)
      obtain ⟨rfl, -, rfl⟩ : An = _ ∧ _ ∧ cn = _ := by injection ev2 with e1 e2 e3; exact ⟨e1, e2, e3⟩
      obtain ⟨adn, rfl, hcell⟩ := at_S hCn k hkn
      have hnk : ns[k]'hkn = (st.L[k]).f0 := by
        have := HNS.out
        subst this
        simp [namesL]
      have hsz : (st.L[k]).f0.size ≤ 32 := (HG.out.safe _ (List.getElem_mem hlt)).2.2
      have HNC : Aside0 (∀ w', Has B w' (rowS (.slice (some adn) st.L.length cn) ns :: []) → w'.cell? (adn.add k) = some (.string (st.L[k]).f0)) := ⟨fun w' hA => by
        obtain ⟨_, _, ev, -, hCn⟩ := hA.reads (d := Kd.string) (e := 9) (v := .slice (some adn) st.L.length cn) (xs := ns) (by simp)
        injection ev with e1 e2 e3
        subst e1
        obtain ⟨ad2, e2, hcell2⟩ := at_S hCn k hkn
        cases e2
        rw [hnk] at hcell2
        exact hcell2⟩
      rw [hnk] at hcell
      dsimp only at q0
      have hs9 : (st.L[k]).f0.size ≤ 9223372036854775807 := by omega
      generalize (st.L[k]).f0 = s at hcell q0 HNC hsz hs9
      have HS9 := Aside0.mk hs9
      have HGT := Aside0.mk (rget_calls HA.out.drew (q := q) (v := .slice (some ad) st.L.length c) (by simp) (by simp) HF.out (by omega) s)
      have hwx : ∃ x, toldX st s = x := ⟨_, rfl⟩
      obtain ⟨x, hwx⟩ := hwx
      have hwe : ∃ r, toldE st s = r := ⟨_, rfl⟩
      obtain ⟨r, hwe⟩ := hwe
      have HGR : Aside0 (∀ (w : World) (Ts : List Th) (A : Option Addr) (c : Nat), Has B w Ts → (r = 0 → rowB (.slice A x.f1.length c) x.f1 ∈ Ts) → Kd.C kB w A x.f1.length x.f1) := ⟨fun w Ts A c h hm => by
        subst hwx
        subst hwe
        exact get_reads h hm⟩
      have hx1 : x.f1.length ≤ 1048576 := by
        rw [← hwx]
        by_cases he : toldE st s = 0
        · obtain ⟨y, hy, ey⟩ := told_yes he
          rw [ey]
          exact HG.out.few y (find_mem hy).1
        · rw [told_no he]
          show (0 : Nat) ≤ _
          omega
      rw [hwx, hwe] at HGT
      have HRDC : Aside0 (∀ (w : World) (Ts : List Th), Has B w (stoT p st :: Ts) → Calls Try.prog 13 #[ptr p, .string s] w fun e w' => ∃ v, e = .returned (.tuple #[v, .int .i64 r]) ∧ Has B w' (stoT p st :: rowB v x.f1 :: Ts) ∧ Below B w w') := ⟨fun w Ts h => by
        have := read_calls h HG.out.rise HOK.out HS9.out
        unfold ReadPost at this
        rw [hwx, hwe] at this
        exact this⟩
      have HSZC : Aside0 (∀ (w : World) (Ts : List Th), Has B w (stoT p st :: Ts) → Calls Try.prog 29 #[ptr p, .string s] w fun e w' => e = .returned (.tuple #[.int .i64 (x.f1.length : Int), .int .i64 r]) ∧ Has B w' (stoT p st :: Ts) ∧ Below B w w') := ⟨fun w Ts h => by
        have := size_calls h HG.out.rise HOK.out HS9.out
        rw [hwx, hwe] at this
        exact this⟩
      have HSYC : Aside0 (∀ (w : World) (Ts : List Th), Has B w (stoT p st :: Ts) → Calls Try.prog 23 #[ptr p, .string s] w fun e w' => e = .returned (.tuple #[.int .i64 x.f2, .int .i64 r]) ∧ Has B w' (stoT p st :: Ts) ∧ Below B w w') := ⟨fun w Ts h => by
        have := synced_calls h HG.out.rise HOK.out HS9.out
        rw [hwx, hwe] at this
        exact this⟩
      clear hwx hwe ev ev2 hC hCn hx hmem hnk hs9
      obtain ⟨f0, x1, x2⟩ := x
      dsimp only at HGT HGR HRDC HSZC HSYC hx1
      go_wp2_with fail
      refine start_ (n := 13) (S := fun w' => w'.cell? ⟨q, 0, none⟩ = some (.slice (some ad) st.L.length c) ∧ w'.cell? (adn.add k) = some (.string s) ∧ w'.cell? (ad.add (k * 3)) = some (.string s)) (ds := []) #[false, false, false, false, false, false, false, false, false, false, false, false, false] (by kernel_rfl) rfl rfl ⟨c0, hcell, q0⟩ (fun hHeld => ?_)
      refine pure_ (i := 0) (N := some 48) (v := ?_) (a' := ?_) #[true, false, false, false, false, false, false, false, false, false, false, false, false] rfl rfl (by kernel_rfl) (fun _ _ _ h => h) (Or.inl ⟨by rfl, ?_⟩) ?_ ?_
      rotate_left
      · intro w'
        go_simp
        with_reducible rfl
      rotate_left
      · simp only [Act.put, List.setIfInBounds_toArray, List.set_cons_zero, List.set_cons_succ, i64_w, i32_w]
        rfl
      refine pure_ (i := 1) (N := some 49) (v := ?_) (a' := ?_) #[true, true, false, false, false, false, false, false, false, false, false, false, false] rfl rfl (by kernel_rfl) (fun _ _ _ h => h) (Or.inl ⟨by rfl, ?_⟩) ?_ ?_
      rotate_left
      · intro w'
        go_simp
        with_reducible rfl
      rotate_left
      · simp only [Act.put, List.setIfInBounds_toArray, List.set_cons_zero, List.set_cons_succ, i64_w, i32_w]
        rfl
      refine pure_ (i := 2) (N := some 50) (v := ?_) (a' := ?_) #[true, true, true, false, false, false, false, false, false, false, false, false, false] rfl rfl (by kernel_rfl) (fun _ _ _ h => h) (Or.inl ⟨by rfl, ?_⟩) ?_ ?_
      rotate_left
      · intro w'
        go_simp
        with_reducible rfl
      rotate_left
      · simp only [Act.put, List.setIfInBounds_toArray, List.set_cons_zero, List.set_cons_succ, i64_w, i32_w]
        rfl
      refine pure_ (i := 4) (N := some 52) (v := ?_) (a' := ?_) #[true, true, true, false, true, false, false, false, false, false, false, false, false] rfl rfl (by kernel_rfl) (fun _ _ _ h => h) (Or.inl ⟨by rfl, ?_⟩) ?_ ?_
      rotate_left
      · intro w'
        go_simp
        with_reducible rfl
      rotate_left
      · simp only [Act.put, List.setIfInBounds_toArray, List.set_cons_zero, List.set_cons_succ, i64_w, i32_w]
        rfl
      refine pure_ (i := 5) (N := some 53) (v := ?_) (a' := ?_) #[true, true, true, false, true, true, false, false, false, false, false, false, false] rfl rfl (by kernel_rfl) (fun _ _ _ h => h) (Or.inl ⟨by rfl, ?_⟩) ?_ ?_
      rotate_left
      · intro w'
        go_simp
        with_reducible rfl
      rotate_left
      · simp only [Act.put, List.setIfInBounds_toArray, List.set_cons_zero, List.set_cons_succ, i64_w, i32_w]
        rfl
      refine pure_ (i := 6) (N := some 54) (v := ?_) (a' := ?_) #[true, true, true, false, true, true, true, false, false, false, false, false, false] rfl rfl (by kernel_rfl) (fun _ _ _ h => h) (Or.inl ⟨by rfl, ?_⟩) ?_ ?_
      rotate_left
      · intro w'
        go_simp
        with_reducible rfl
      rotate_left
      · simp only [Act.put, List.setIfInBounds_toArray, List.set_cons_zero, List.set_cons_succ, i64_w, i32_w]
        rfl
      refine pure_ (i := 8) (N := some 56) (v := ?_) (a' := ?_) #[true, true, true, false, true, true, true, false, true, false, false, false, false] rfl rfl (by kernel_rfl) (fun _ _ _ h => h) (Or.inl ⟨by rfl, ?_⟩) ?_ ?_
      rotate_left
      · intro w'
        go_simp
        with_reducible rfl
      rotate_left
      · simp only [Act.put, List.setIfInBounds_toArray, List.set_cons_zero, List.set_cons_succ, i64_w, i32_w]
        rfl
      refine take_ (i := 3) (N := some 51) (v := ?_) (a' := ?_) #[true, true, true, true, true, true, true, false, true, false, false, false, false] rfl rfl (by kernel_rfl) (fun _ _ _ h => h) (Or.inl ⟨by rfl, ?_⟩) hHeld ?_ ?_
      rotate_left
      · rintro w' ⟨s0, s1, s2⟩
        go_simp
        with_reducible rfl
      rotate_left
      · simp only [Act.put, List.setIfInBounds_toArray, List.set_cons_zero, List.set_cons_succ, i64_w, i32_w]
        rfl
      refine take_ (i := 7) (N := some 55) (v := ?_) (a' := ?_) #[true, true, true, true, true, true, true, true, true, false, false, false, false] rfl rfl (by kernel_rfl) (fun _ _ _ h => h) (Or.inl ⟨by rfl, ?_⟩) hHeld ?_ ?_
      rotate_left
      · rintro w' ⟨s0, s1, s2⟩
        go_simp
        with_reducible rfl
      rotate_left
      · simp only [Act.put, List.setIfInBounds_toArray, List.set_cons_zero, List.set_cons_succ, i64_w, i32_w]
        rfl
      refine pure_ (i := 9) (N := some 57) (v := ?_) (a' := ?_) #[true, true, true, true, true, true, true, true, true, true, false, false, false] rfl rfl (by kernel_rfl) (fun _ _ _ h => h) (Or.inl ⟨by rfl, ?_⟩) ?_ ?_
      rotate_left
      · intro w'
        go_simp
        with_reducible rfl
      rotate_left
      · simp only [Act.put, List.setIfInBounds_toArray, List.set_cons_zero, List.set_cons_succ, i64_w, i32_w]
        rfl
      refine pure_ (i := 10) (N := some 58) (v := ?_) (a' := ?_) #[true, true, true, true, true, true, true, true, true, true, true, false, false] rfl rfl (by kernel_rfl) (fun _ _ _ h => h) (Or.inl ⟨by rfl, ?_⟩) ?_ ?_
      rotate_left
      · intro w'
        go_simp
        with_reducible rfl
      rotate_left
      · simp only [Act.put, List.setIfInBounds_toArray, List.set_cons_zero, List.set_cons_succ, i64_w, i32_w]
        rfl
      refine take_ (i := 11) (N := some 59) (v := ?_) (a' := ?_) #[true, true, true, true, true, true, true, true, true, true, true, true, false] rfl rfl (by kernel_rfl) (fun _ _ _ h => h) (Or.inl ⟨by rfl, ?_⟩) hHeld ?_ ?_
      rotate_left
      · rintro w' ⟨s0, s1, s2⟩
        go_simp
        with_reducible rfl
      rotate_left
      · simp only [Act.put, List.setIfInBounds_toArray, List.set_cons_zero, List.set_cons_succ, i64_w, i32_w]
        rfl
      refine pure_ (i := 12) (N := some 60) (v := ?_) (a' := ?_) #[true, true, true, true, true, true, true, true, true, true, true, true, true] rfl rfl (by kernel_rfl) (fun _ _ _ h => h) (Or.inl ⟨by rfl, ?_⟩) ?_ ?_
      rotate_left
      · intro w'
        go_simp
        with_reducible rfl
      rotate_left
      · simp only [Act.put, List.setIfInBounds_toArray, List.set_cons_zero, List.set_cons_succ, i64_w, i32_w]
        rfl
      refine done_ (by kernel_rfl) ?_

      have HA3 := Aside0.mk HA.out.drew
      have HB3 := Aside0.mk (below_drew HB.out)
      have hc3 : wr.drew.cell? (adn.add k) = some (.string s) := hcell
      clear hcell q0 c0 HA HB
      generalize wr.drew = w3 at HA3 HB3 HGT hc3 ⊢
      go_wp2_with fail
      refine HGT.out.mono ?_
      rintro e w4 ⟨A4, c4, rfl, hm, hb⟩
      dsimp only at hm
      have HM := Aside0.mk hm
      have HA4 := Aside0.mk ((HA3.out.below hb).box #[.string f0, .slice A4 x1.length c4, .int .i64 x2] 56)
      have HA5 : Aside0 (Has B (w4.alloc (.cells #[.string f0, .slice A4 x1.length c4, .int .i64 x2] 56)) (stoT p st :: refB q (.slice (some ad) st.L.length c) st.left st.acts :: rowF (.slice (some ad) st.L.length c) fs :: rowS (.slice (some adn) st.L.length cn) ns :: boxT w4.heap.size #[.string f0, .slice A4 x1.length c4, .int .i64 x2] 56 :: Ns)) := ⟨HA4.out.perm (List.perm_middle (l₁ := [_, _, _, _])).symm⟩
      have HB5 := Aside0.mk ((HB3.out.trans (hb.mono HA3.out.size)).alloc (HA3.out.below hb).size (.cells #[.string f0, .slice A4 x1.length c4, .int .i64 x2] 56))
      have HRD := Aside0.mk (HRDC.out _ _ HA5.out)
      have hc4 : (w4.alloc (.cells #[.string f0, .slice A4 x1.length c4, .int .i64 x2] 56)).cell? (adn.add k) = some (.string s) := HNC.out _ (has_only (HA5.out.perm (List.perm_middle (l₁ := [_, _, _]))))
      clear hm hb HA4 HA3 HB3 HGT HRDC hc3
      generalize hb4 : w4.heap.size = b4 at HA5 HRD ⊢
      go_wp2_with fail
      refine HRD.out.mono ?_
      rintro e w6 ⟨v6, rfl, hA6, hB6⟩
      obtain ⟨A6, c6, rfl, -, -⟩ := hA6.reads (d := kB) (e := 5) (v := v6) (xs := x1) (by simp)
      have hc6 : w6.cell? (adn.add k) = some (.string s) := HNC.out _ (has_only (hA6.perm (List.perm_middle (l₁ := [_, _, _, _]))))
      have HSZ := Aside0.mk (HSZC.out _ _ hA6)
      have HB6 := Aside0.mk (HB5.out.trans hB6)
      clear hA6 hB6 HRD HSZC HA5 HB5 hc4
      go_wp2_with fail
      refine HSZ.out.mono ?_
      rintro e w7 ⟨rfl, hA7, hB7⟩
      have hc7 : w7.cell? (adn.add k) = some (.string s) := HNC.out _ (has_only (hA7.perm (List.perm_middle (l₁ := [_, _, _, _]))))
      have HSY := Aside0.mk (HSYC.out _ _ hA7)
      have HB7 := Aside0.mk (HB6.out.trans hB7)
      clear hA7 hB7 HSZ HSYC HB6 hc6
      go_wp2_with fail
      refine HSY.out.mono ?_
      rintro e w8 ⟨rfl, hA8, hB8⟩
      have HB8 := Aside0.mk (HB7.out.trans hB8)
      obtain ⟨_, _, ev, -, hC6⟩ := hA8.reads (d := kB) (e := 5) (v := .slice A6 x1.length c6) (xs := x1) (by simp)
      obtain ⟨rfl, -, rfl⟩ : A6 = _ ∧ _ ∧ c6 = _ := by injection ev with e1 e2 e3; exact ⟨e1, e2, e3⟩
      have hC4 : Kd.C kB w8 A4 x1.length x1 := HGR.out w8 _ A4 c4 hA8 (fun e => by simp [HM.out e])
      have g1 := Kd.C_string (P := Try.prog) (c := c6) Try.underlying23 Try.underlying5 Try.underlying9 hC6
      have g2 := Kd.C_string (P := Try.prog) (c := c4) Try.underlying23 Try.underlying5 Try.underlying9 hC4
      obtain ⟨bx, -, -, -⟩ := hA8.box_cell (b := b4) (cs := #[.string f0, .slice A4 x1.length c4, .int .i64 x2]) (t := 56) (by simp)
      have y1 : w8.cell? ⟨b4, 1, none⟩ = some (.slice A4 x1.length c4) := bx 1
      have y2 : w8.cell? ⟨b4, 2, none⟩ = some (.int .i64 x2) := bx 2
      have HA8 := Aside0.mk hA8.swap
      clear hA8 hB8 ev hC6 hC4 bx HSY HB7 hc7
      generalize strOfNums x1 = sx at g1 g2
      obtain ⟨n, hn⟩ : ∃ n, x1.length = n := ⟨_, rfl⟩
      have HLN := Aside0.mk hn
      rw [hn] at HA8 hx1 y1 g1 g2 ⊢
      have HEK := Aside0.mk ek
      clear hn
      go_wp2_with fail
      go_loopw [15] (fun i wr => ∃ (j : Nat) (xs : List Int), i = .int .i64 j ∧ j ≤ n ∧ xs.length = n ∧ Aside0 (Has B wr (rowB (.slice A6 n c6) xs :: stoT p st :: refB q (.slice (some ad) st.L.length c) st.left st.acts :: rowF (.slice (some ad) st.L.length c) fs :: rowS (.slice (some adn) st.L.length cn) ns :: boxT b4 #[.string f0, .slice A4 n c4, .int .i64 x2] 56 :: Ns)) ∧ Aside0 (Below B w wr)) (fun i _ => n - (intOf i).toNat)
      case atStart => exact ⟨0, x1, rfl, by omega, HLN.out, HA8, HB8⟩
      case round =>
        clear HA8 HB8 g1 g2 y1 y2 ek hkn hnl d1 d2
        obtain ⟨j, xs, rfl, hj, hxs, HA, HB⟩ := hrel
        by_cases hlt2 : j < n
        · have d3 : decide ((j : Int) < (n : Int)) = true := decide_eq_true (by omega)
          have d4 : decide (0 ≤ (j : Int)) = true := decide_eq_true (by omega)
          have hjx : j < xs.length := by rw [hxs]; exact hlt2
          have ej : wrap64 ((j : Int) + 1) = ((j + 1 : Nat) : Int) := wrap_nat (by omega)
          obtain ⟨_, _, ev, -, hC⟩ := HA.out.reads (d := kB) (e := 5) (v := .slice A6 n c6) (xs := xs) (by simp)
          obtain ⟨rfl, -, rfl⟩ : A6 = _ ∧ _ ∧ c6 = _ := by injection ev with e1 e2 e3; exact ⟨e1, e2, e3⟩
          obtain ⟨ad6, rfl, z0⟩ := at_B hC j hjx
          obtain ⟨hA9, hB9, fz⟩ := row_putB HA.out j hjx 7
          have HA9 := Aside0.mk hA9
          have HB9 := Aside0.mk (HB.out.trans hB9)
          clear ev hC hA9 hB9
          go_wp2_with fail
          go_roundw
          case rel => exact ⟨j + 1, xs.set j 7, by first | rfl | rw [ej], by omega, by rw [List.length_set]; exact hxs, HA9, HB9⟩
          case measure => first | (simp [intOf]; omega) | (rw [ej]; simp [intOf]; omega)
        · have d3 : decide ((j : Int) < (n : Int)) = false := decide_eq_false (by omega)
          have HA9 : Aside0 (Has B wr (stoT p st :: refB q (.slice (some ad) st.L.length c) st.left st.acts :: rowF (.slice (some ad) st.L.length c) fs :: rowS (.slice (some adn) st.L.length cn) ns :: Ns)) := ⟨(HA.out.tail.perm (List.perm_middle (l₁ := [_, _, _, _]))).tail⟩
          have ek := HEK.out
          go_wp2_with fail
          go_roundw
          case rel => exact ⟨k + 1, by first | rfl | rw [ek], by omega, HA9, HB⟩
          case measure => first | (simp [intOf]; omega) | (rw [ek]; simp [intOf]; omega)
    · have d1 : decide ((k : Int) < (st.L.length : Int)) = false := decide_eq_false (by omega)
      have HBO : Aside0 (Both B wr p q st) := ⟨_, _, _, HA.out, HF.out.more fun T hT => List.mem_cons_of_mem _ hT⟩
      go_wp2_with fail
      go_ret
      exact ⟨rfl, HBO.out, HB.out⟩
end Go.Proofs.Ytibnakpefjjoiaa.Fs
