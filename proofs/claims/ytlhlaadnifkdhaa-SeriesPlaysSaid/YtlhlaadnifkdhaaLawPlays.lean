/- What the program's store answers is what the document's store answers: walked. -/
import Derived.Test.YtlhlaadnifkdhaaM3
namespace Go.Proofs.Ytlhlaadnifkdhaa.Sr
open Go.RowKit Go.Proofs.YtlhlaadnifkdhaaW.PrintWords Go.Proofs.YtlhlaadnifkdhaaW.PrintLast Go.Proofs.YtlhlaadnifkdhaaW.PrintMore Go.Proofs.Ytlhlaadnifkdhaa.Q Go.Proofs.Ytlhlaadnifkdhaa.Own Go.Proofs.Ytlhlaadnifkdhaa.Nmd
set_option linter.unusedVariables false
set_option linter.unusedSimpArgs false
attribute [local go_sem ↓] Go.wp_at_zero Go.wp_at_succ

/-- What an act that came in is good for. -/
def GoodA (x : AT) : Prop := True ∧ (x.f1.length ≤ 9223372036854775807 ∧ ∀ y ∈ x.f1, y.f0.size ≤ 9223372036854775807 ∧ y.f1.size ≤ 9223372036854775807) ∧ ((Lit.int .i64 x.f2.f0).wf = true ∧ (Lit.int .i64 x.f2.f1).wf = true)
theorem good_top {x : AT} (h : GoodA x) : x.f2.f0 ≤ top64 := by
  have h1 := h.2.2.1
  unfold top64
  simp [Lit.wf] at h1
  exact h1.2
/-! Great, with the number of labels -/
theorem w3sum (x : Int) (a b : Nat) (h0 : 0 ≤ x) (h1 : x ≤ 20000) (ha : (a : Int) ≤ 20000) (hb : (b : Int) ≤ 20000) : wrap64 (wrap64 (wrap64 (x + 1) + (a : Int)) + (b : Int)) = x + 1 + (a : Int) + (b : Int) := by
  rw [w64 (x := x + 1) (by omega) (by omega), w64 (x := x + 1 + (a : Int)) (by omega) (by omega), w64 (x := x + 1 + (a : Int) + (b : Int)) (by omega) (by omega)]
theorem gre_l1 (l : List AT) (x4 : Int) (h0 : 0 ≤ x4) (h1 : x4 < l.length) (hl : ((rd_T46 l x4).f1).length ≤ 9223372036854775807) (Rest : Prop) (hn : ∀ x3, 0 ≤ x3 → x3 ≤ 60001 → ∃ r, Ev (fun k => tocsinlaw17_Great.l0 k l x3 (wrap64 (x4 + 1))) r ∧ (r = false → x3 ≤ 20000 ∧ Rest)) : ∀ (d : Nat) (x5 x3 : Int), 0 ≤ x3 → x3 ≤ 60001 → 0 ≤ x5 → x5 ≤ ((rd_T46 l x4).f1).length → (((rd_T46 l x4).f1).length : Int) - x5 = d → ∃ r, Ev (fun k => tocsinlaw17_Great.l1 k l x3 x4 x5) r ∧ (r = false → x3 + d ≤ 20000 ∧ Rest) := by
  intro d
  induction d with
  | zero =>
    intro x5 x3 g0 g1 h2 h3 hd
    obtain ⟨r, hr, hq⟩ := hn x3 g0 g1
    exact ⟨r, Ev.step (fun k => by rw [tocsinlaw17_Great.l1, if_pos h0, if_pos h1, if_neg (by omega)]) hr, fun q => ⟨by have := (hq q).1; omega, (hq q).2⟩⟩
  | succ d ih =>
    intro x5 x3 g0 g1 h2 h3 hd
    by_cases c1 : (((rd_T31 ((rd_T46 l x4).f1) x5).f0).size : Int) > 20000
    · exact ⟨true, Ev.step (fun k => by rw [tocsinlaw17_Great.l1, if_pos h0, if_pos h1, if_pos (by omega), if_pos h2, if_pos c1]) (Ev.now _), fun q => by cases q⟩
    by_cases c2 : (((rd_T31 ((rd_T46 l x4).f1) x5).f1).size : Int) > 20000
    · exact ⟨true, Ev.step (fun k => by rw [tocsinlaw17_Great.l1, if_pos h0, if_pos h1, if_pos (by omega), if_pos h2, if_neg c1, if_pos c2]) (Ev.now _), fun q => by cases q⟩
    by_cases c3 : x3 > 20000
    · exact ⟨true, Ev.step (fun k => by rw [tocsinlaw17_Great.l1, if_pos h0, if_pos h1, if_pos (by omega), if_pos h2, if_neg c1, if_neg c2, if_pos c3]) (Ev.now _), fun q => by cases q⟩
    have e3 : (wrap64 ((wrap64 ((wrap64 (x3 + 1)) + (((rd_T31 ((rd_T46 l x4).f1) x5).f0).size : Int))) + (((rd_T31 ((rd_T46 l x4).f1) x5).f1).size : Int))) = x3 + 1 + (((rd_T31 ((rd_T46 l x4).f1) x5).f0).size : Int) + (((rd_T31 ((rd_T46 l x4).f1) x5).f1).size : Int) := by
      exact w3sum x3 _ _ g0 (by omega) (by omega) (by omega)
    obtain ⟨r, hr, hq⟩ := ih (x5 + 1) (x3 + 1 + (((rd_T31 ((rd_T46 l x4).f1) x5).f0).size : Int) + (((rd_T31 ((rd_T46 l x4).f1) x5).f1).size : Int)) (by omega) (by omega) (by omega) (by omega) (by omega)
    exact ⟨r, Ev.step (fun k => by rw [tocsinlaw17_Great.l1, if_pos h0, if_pos h1, if_pos (by omega), if_pos h2, if_neg c1, if_neg c2, if_neg c3, e3, w64 (x := x5 + 1) (by omega) (by omega)]) hr, fun q => ⟨by have := (hq q).1; omega, (hq q).2⟩⟩
theorem gre_l0 (l : List AT) (hl : l.length ≤ 200) (hg : ∀ x ∈ l, x.f1.length ≤ 9223372036854775807) : ∀ (d : Nat) (x4 x3 : Int), 0 ≤ x3 → x3 ≤ 60001 → 0 ≤ x4 → x4 ≤ l.length → (l.length : Int) - x4 = d → ∃ r, Ev (fun k => tocsinlaw17_Great.l0 k l x3 x4) r ∧ (r = false → x3 ≤ 20000 ∧ ∀ j (h : j < l.length), x4.toNat ≤ j → (l[j]).f1.length ≤ 20000) := by
  intro d
  induction d with
  | zero =>
    intro x4 x3 g0 g1 h0 h1 hd
    exact ⟨_, Ev.step (fun k => by rw [tocsinlaw17_Great.l0, if_neg (by omega)]) (Ev.now _), fun q => ⟨by have := of_decide_eq_false q; omega, fun j h q => by omega⟩⟩
  | succ d ih =>
    intro x4 x3 g0 g1 h0 h1 hd
    have hx : x4 < l.length := by omega
    obtain ⟨r, hr, hq⟩ := gre_l1 l x4 h0 hx (hg _ (rd_memA h0 hx)) (∀ j (h : j < l.length), (x4 + 1).toNat ≤ j → (l[j]).f1.length ≤ 20000) (fun x3' k0 k1 => by
      rw [w64 (by omega) (by omega)]
      exact ih (x4 + 1) x3' k0 k1 (by omega) (by omega) (by omega)) _ 0 x3 g0 g1 (by omega) (by omega) (Int.sub_zero _)
    refine ⟨r, Ev.step (fun k => by rw [tocsinlaw17_Great.l0, if_pos hx]) hr, fun q => ?_⟩
    obtain ⟨a, b⟩ := hq q
    refine ⟨by omega, fun j hj hk => ?_⟩
    by_cases c : j = x4.toNat
    · subst c
      have e : rd_T46 l x4 = l[x4.toNat] := by
        unfold rd_T46
        rw [List.getD_eq_getElem?_getD, List.getElem?_eq_getElem hj]
        rfl
      rw [← e]
      omega
    · exact b j hj (by omega)
theorem gre_c {w : World} {A : Option Addr} {c : Nat} {l : List AT} (hC : Kd.C kA w A l.length l) (hc : l.length ≤ c) (hg : ∀ x ∈ l, x.f1.length ≤ 9223372036854775807) :
    ∃ r, (r = false → l.length ≤ 200 ∧ ∀ x ∈ l, x.f1.length ≤ 20000) ∧ Calls Try.prog 12 #[.slice A l.length c] w fun e w' => e = .returned (.bool r) ∧ Below w.heap.size w w' := by
  have hev : ∃ r, Ev (fun k => tocsinlaw17_Great.f k l) r ∧ (r = false → l.length ≤ 200 ∧ ∀ x ∈ l, x.f1.length ≤ 20000) := by
    by_cases h : (l.length : Int) > 200
    · exact ⟨true, Pure.ev_pos h (Ev.now _), fun q => by cases q⟩
    · obtain ⟨r, hr, hq⟩ := gre_l0 l (by omega) hg l.length 0 0 (by omega) (by omega) (by omega) (by omega) (by omega)
      refine ⟨r, Pure.ev_neg h hr, fun q => ⟨by omega, fun x hx => ?_⟩⟩
      obtain ⟨j, hj, rfl⟩ := List.getElem_of_mem hx
      exact (hq q).2 j hj (Nat.zero_le _)
  obtain ⟨r, hr, h2⟩ := hev
  obtain ⟨k, hk⟩ := hr.rounds
  refine ⟨r, h2, (tocsinlaw17_Great.calls k A c l _ w hC hc hk).mono ?_⟩
  rintro e w' ⟨rfl, hb⟩
  exact ⟨rfl, hb⟩
theorem mat_at {w : World} {A : Option Addr} {n : Nat} {l : List MT} (h : Kd.C kM w A n l) (k : Nat) (hk : k < l.length) : ∃ ad, A = some ad ∧ w.cell? (ad.add (k * 3)) = some (.string (l[k]).f0) ∧ w.cell? ⟨(ad.add (k * 3)).block, (ad.add (k * 3)).off + 2, none⟩ = some (.string (l[k]).f2) := by
  have hn := Kd.C_len h
  obtain ⟨ad, e, h0, -, h2⟩ := at_T40 h (k : Int) (by omega) (by omega)
  have hr : rd_T40 l (k : Int) = l[k] := by
    unfold rd_T40
    rw [Int.toNat_natCast, List.getD_eq_getElem?_getD, List.getElem?_eq_getElem hk]
    rfl
  rw [hr, Int.toNat_natCast] at h0 h2
  exact ⟨ad, e, h0, h2⟩
set_option maxHeartbeats 16000000 in
set_option maxRecDepth 100000 in
theorem plays_law {G1 : MT → Prop} (A0 : Option Addr) (c0 : Nat) (l0 : List AT) (A1 : Option Addr) (c1 : Nat) (l1 : List MT) (a2 a3 : Int) (W : World) (hr0 : Kd.C kA W A0 l0.length l0) (hc0 : l0.length ≤ c0) (hr1 : Kd.C kM W A1 l1.length l1) (hc1 : l1.length ≤ c1) (hm0 : l0.length ≤ 9223372036854775807) (y0 : l0.length * 48 ≤ 140737488351232) (hg0 : ∀ x ∈ l0, GoodA x) (hm1 : l1.length ≤ 9223372036854775807) (y1 : l1.length * 40 ≤ 140737488351232) (hg1 : ∀ x ∈ l1, G1 x) (w2 : (Lit.int .i64 a2).wf = true) (w3 : (Lit.int .i64 a3).wf = true) :
    Calls Try.prog 4 #[.slice A0 l0.length c0, .slice A1 l1.length c1, .int .i64 a2, .int .i64 a3] W fun e w' => e = .returned (.bool true) ∧ Below W.heap.size W w' := by
  clear hg1 w2 w3 y0 y1
  obtain ⟨r, hr, hgr⟩ := gre_c hr0 hc0 (fun x hx => (hg0 x hx).2.1.1)
  have HFN : Aside0 (∀ k, VFin (runV (l0.take k))) := ⟨fun k => fin_run fun a ha => good_top (hg0 a (List.mem_of_mem_take ha))⟩
  have HGD := Aside0.mk hg0
  have HG := Aside0.mk hgr
  have HC := Aside0.mk hr0
  have HM := Aside0.mk hr1
  have HR := Aside0.mk hr
  have HCC := Aside0.mk (show l0.length ≤ c0 ∧ l1.length ≤ c1 from ⟨hc0, hc1⟩)
  have H1 := Aside0.mk hm1
  have hu26 := Try.underlying26
  have hu31 := Try.underlying31
  clear hr0 hr1 hc0 hc1 hm0 hm1 hgr hr hg0
  go_enter Try.func4, Try.ntmps4
  go_wp2_with fail
  refine HG.out.mono ?_
  rintro e w1 ⟨rfl, hb1⟩
  have HB1 := Aside0.mk hb1
  clear hb1 HG
  cases r with
  | true =>
    go_wp2_with fail
    go_ret
    exact ⟨rfl, HB1.out⟩
  | false =>
    have hl0 := (HR.out rfl).1
    have HLS := Aside0.mk (HR.out rfl).2
    by_cases hml : l1.length > 20
    · have d0 : decide ((l1.length : Int) > 20) = true := decide_eq_true (by omega)
      have d0' : (20 : Int) < (l1.length : Int) := by omega
      go_wp2_with fail
      go_ret
      exact ⟨rfl, HB1.out⟩
    have d0 : decide ((l1.length : Int) > 20) = false := decide_eq_false (by omega)
    have d0' : ¬ (20 : Int) < (l1.length : Int) := by omega
    go_wp2_with fail
    go_loopw [9] (fun i wr => ∃ k : Nat, i = .int .i64 k ∧ k ≤ l1.length ∧ Aside0 (Below W.heap.size W wr)) (fun i _ => l1.length - (intOf i).toNat)
    case atStart => exact ⟨0, rfl, by omega, HB1⟩
    case round =>
      clear HB1
      obtain ⟨k, rfl, hk, HB⟩ := hrel
      by_cases hlt : k < l1.length
      · have d1 : decide ((k : Int) < (l1.length : Int)) = true := decide_eq_true (by omega)
        have d2 : decide (0 ≤ (k : Int)) = true := decide_eq_true (by omega)
        have ek : wrap64 ((k : Int) + 1) = ((k + 1 : Nat) : Int) := (w64 (x := (k : Int) + 1) (by omega) (by omega)).trans (by omega)
        obtain ⟨ad, rfl, q0, q2⟩ := mat_at HM.out k hlt
        replace q0 := (HB.out.cell (World.block_lt_of_cell? W _ q0)).trans q0
        replace q2 := (HB.out.cell (World.block_lt_of_cell? W _ q2)).trans q2
        generalize (l1[k]).f0 = s0 at q0
        generalize (l1[k]).f2 = s2 at q2
        by_cases h1 : (s0.size : Int) > 2000
        · have d3 : decide ((s0.size : Int) > 2000) = true := decide_eq_true h1
          go_wp2_with fail
          go_ret
          exact ⟨rfl, HB.out⟩
        have d3 : decide ((s0.size : Int) > 2000) = false := decide_eq_false h1
        have d3' : ¬ (2000 : Int) < (s0.size : Int) := by omega
        by_cases h2 : (s2.size : Int) > 2000
        · have d4 : decide ((s2.size : Int) > 2000) = true := decide_eq_true h2
          go_wp2_with fail
          go_ret
          exact ⟨rfl, HB.out⟩
        have d4 : decide ((s2.size : Int) > 2000) = false := decide_eq_false h2
        have d4' : ¬ (2000 : Int) < (s2.size : Int) := by omega
        go_wp2_with fail
        go_roundw
        case rel => exact ⟨k + 1, by first | rfl | rw [ek], by omega, HB⟩
        case measure => first | (simp [intOf]; omega) | (rw [ek]; simp [intOf]; omega)
      · obtain rfl : k = l1.length := by omega
        have d1 : decide ((l1.length : Int) < (l1.length : Int)) = false := decide_eq_false (by omega)
        go_wp2_with fail
        refine (st_new (Has.nil wr)).mono ?_
        rintro e w3 ⟨p, rfl, hA, hB⟩
        have HB3 : Aside0 (Below W.heap.size W w3) := ⟨HB.out.trans (hB.mono HB.out.size)⟩
        have hA3 : Has W.heap.size w3 [storeT p (runV (l0.take 0))] := ⟨HB3.out.size, by
          obtain ⟨F, h1, h2, h3⟩ := hA.all
          exact ⟨F, h1, fun k hk => ⟨trivial, Nat.le_trans HB.out.size (h2 k hk).2.1, (h2 k hk).2.2⟩, trivial⟩⟩
        have HA4 : Aside0 (Has W.heap.size (w3.alloc (.cells #[.slice none 0 0] 44)) [refT w3.heap.size (runV (l0.take 0)), storeT p (runV (l0.take 0))]) := ⟨ref_new hA3⟩
        have HB4 : Aside0 (Below W.heap.size W (w3.alloc (.cells #[.slice none 0 0] 44))) := ⟨HB3.out.alloc hA3.size _⟩
        clear hA hB HB d1 hlt hA3 HB3
        go_wp2_with fail
        generalize w3.heap.size = q at HA4 ⊢
        generalize w3.alloc (.cells #[.slice none 0 0] 44) = w4 at HA4 HB4 ⊢
        go_loopw [12] (fun i wr => ∃ k : Nat, i = .int .i64 k ∧ k ≤ l0.length ∧ Aside0 (Has W.heap.size wr [refT q (runV (l0.take k)), storeT p (runV (l0.take k))]) ∧ Aside0 (Below W.heap.size W wr)) (fun i _ => l0.length - (intOf i).toNat)
        case atStart => exact ⟨0, rfl, by omega, HA4, HB4⟩
        case round =>
          clear HA4 HB4
          obtain ⟨k, rfl, hk, HA, HB⟩ := hrel
          by_cases hlt : k < l0.length
          · have d1 : decide ((k : Int) < (l0.length : Int)) = true := decide_eq_true (by omega)
            have d2 : decide (0 ≤ (k : Int)) = true := decide_eq_true (by omega)
            obtain ⟨ad, Al, cl, rfl, q0, q1, q2, q3, hcl, hCl⟩ := act_at HC.out k hlt
            have HT := Aside0.mk (run_take l0 hlt)
            have HQ : Aside0 (∀ w', Below W.heap.size W w' → w'.cell? (ad.add (k * 4)) = some (.bool (l0[k]).f0) ∧ w'.cell? ⟨(ad.add (k * 4)).block, (ad.add (k * 4)).off + 1, none⟩ = some (.slice Al (l0[k]).f1.length cl) ∧ w'.cell? ⟨(ad.add (k * 4)).block, (ad.add (k * 4)).off + 2, none⟩ = some (.int .i64 (l0[k]).f2.f0) ∧ w'.cell? ⟨(ad.add (k * 4)).block, (ad.add (k * 4)).off + 3, none⟩ = some (.int .i64 (l0[k]).f2.f1)) := ⟨fun w' hb => ⟨cell_bl (B := 0) hb q0, cell_bl (B := 0) hb q1, cell_bl (B := 0) hb q2, cell_bl (B := 0) hb q3⟩⟩
            have HCL := Aside0.mk hCl
            have HGK := Aside0.mk (HGD.out _ (List.getElem_mem hlt)).2.1.2
            have hlsl := HLS.out _ (List.getElem_mem hlt)
            have HHC := Aside0.mk hcl
            clear q0 q1 q2 q3 hCl hcl
            have hlt1 : k + 1 ≤ l0.length := hlt
            have ek : wrap64 ((k : Int) + 1) = ((k + 1 : Nat) : Int) := (w64 (x := (k : Int) + 1) (by omega) (by omega)).trans (by omega)
            obtain ⟨q0, q1, q2, q3⟩ := HQ.out wr HB.out
            have hfacts : VMay (runV (l0.take k)) ∧ (runV (l0.take k)).length ≤ 8 := ⟨may_run _, (store_facts HA.out.swap).2.2.1⟩
            have HVF : Aside0 (VMay (runV (l0.take k)) ∧ VSrt (runV (l0.take k)) ∧ (runV (l0.take k)).length ≤ 8) := ⟨hfacts.1, srt_run _, hfacts.2⟩
            have HV1 : Aside0 (VSrt (runV (l0.take (k + 1))) ∧ VFin (runV (l0.take (k + 1)))) := ⟨srt_run _, HFN.out _⟩
            clear hfacts
            generalize l0[k] = x at q0 q1 q2 q3 HT HQ HCL HGK HHC hlsl
            obtain ⟨x0, x1, ⟨x2, x3⟩⟩ := x
            dsimp only at q0 q1 q2 q3 HQ HCL HGK HHC hlsl
            cases x0 with
            | true =>
              have HT2 : Aside0 (runV (l0.take (k + 1)) = expV (runV (l0.take k)) x2) := ⟨HT.out⟩
              clear HT
              obtain ⟨V1, hV1⟩ : ∃ V1, runV (l0.take (k + 1)) = V1 := ⟨_, rfl⟩
              rw [hV1] at HV1 HT2
              have HVV := Aside0.mk hV1
              clear hV1
              generalize runV (l0.take k) = V at HA HT2 HVF
              have HEX := Aside0.mk (st_exp HA.out.swap.drew x2)
              clear q1 q3
              go_wp2_with fail
              refine start_ (n := 17) (S := fun w' => w'.cell? ⟨(ad.add (k * 4)).block, (ad.add (k * 4)).off + 2, none⟩ = some (.int .i64 x2)) (ds := [15]) #[false, false, false, false, false, false, false, false, false, false, false, false, false, false, false, false, false] (by kernel_rfl) rfl rfl (q2) (fun hHeld => ?_)
              refine pure_ (i := 0) (N := some 62) (v := ?_) (a' := ?_) #[true, false, false, false, false, false, false, false, false, false, false, false, false, false, false, false, false] rfl rfl (by kernel_rfl) (fun _ _ _ h => h) (Or.inl ⟨by rfl, ?_⟩) ?_ ?_
              rotate_left
              · intro w'
                go_simp
                with_reducible rfl
              rotate_left
              · simp only [Act.put, List.setIfInBounds_toArray, List.set_cons_zero, List.set_cons_succ, i64_w, i32_w]
                rfl
              refine pure_ (i := 1) (N := some 63) (v := ?_) (a' := ?_) #[true, true, false, false, false, false, false, false, false, false, false, false, false, false, false, false, false] rfl rfl (by kernel_rfl) (fun _ _ _ h => h) (Or.inl ⟨by rfl, ?_⟩) ?_ ?_
              rotate_left
              · intro w'
                go_simp
                with_reducible rfl
              rotate_left
              · simp only [Act.put, List.setIfInBounds_toArray, List.set_cons_zero, List.set_cons_succ, i64_w, i32_w]
                rfl
              refine pure_ (i := 2) (N := some 64) (v := ?_) (a' := ?_) #[true, true, true, false, false, false, false, false, false, false, false, false, false, false, false, false, false] rfl rfl (by kernel_rfl) (fun _ _ _ h => h) (Or.inl ⟨by rfl, ?_⟩) ?_ ?_
              rotate_left
              · intro w'
                go_simp
                with_reducible rfl
              rotate_left
              · simp only [Act.put, List.setIfInBounds_toArray, List.set_cons_zero, List.set_cons_succ, i64_w, i32_w]
                rfl
              refine pure_ (i := 3) (N := some 65) (v := ?_) (a' := ?_) #[true, true, true, true, false, false, false, false, false, false, false, false, false, false, false, false, false] rfl rfl (by kernel_rfl) (fun _ _ _ h => h) (Or.inl ⟨by rfl, ?_⟩) ?_ ?_
              rotate_left
              · intro w'
                go_simp
                with_reducible rfl
              rotate_left
              · simp only [Act.put, List.setIfInBounds_toArray, List.set_cons_zero, List.set_cons_succ, i64_w, i32_w]
                rfl
              refine pure_ (i := 4) (N := some 66) (v := ?_) (a' := ?_) #[true, true, true, true, true, false, false, false, false, false, false, false, false, false, false, false, false] rfl rfl (by kernel_rfl) (fun _ _ _ h => h) (Or.inl ⟨by rfl, ?_⟩) ?_ ?_
              rotate_left
              · intro w'
                go_simp
                with_reducible rfl
              rotate_left
              · simp only [Act.put, List.setIfInBounds_toArray, List.set_cons_zero, List.set_cons_succ, i64_w, i32_w]
                rfl
              refine pure_ (i := 5) (N := some 67) (v := ?_) (a' := ?_) #[true, true, true, true, true, true, false, false, false, false, false, false, false, false, false, false, false] rfl rfl (by kernel_rfl) (fun _ _ _ h => h) (Or.inl ⟨by rfl, ?_⟩) ?_ ?_
              rotate_left
              · intro w'
                go_simp
                with_reducible rfl
              rotate_left
              · simp only [Act.put, List.setIfInBounds_toArray, List.set_cons_zero, List.set_cons_succ, i64_w, i32_w]
                rfl
              refine pure_ (i := 8) (N := some 70) (v := ?_) (a' := ?_) #[true, true, true, true, true, true, false, false, true, false, false, false, false, false, false, false, false] rfl rfl (by kernel_rfl) (fun _ _ _ h => h) (Or.inl ⟨by rfl, ?_⟩) ?_ ?_
              rotate_left
              · intro w'
                go_simp
                with_reducible rfl
              rotate_left
              · simp only [Act.put, List.setIfInBounds_toArray, List.set_cons_zero, List.set_cons_succ, i64_w, i32_w]
                rfl
              refine pure_ (i := 9) (N := some 71) (v := ?_) (a' := ?_) #[true, true, true, true, true, true, false, false, true, true, false, false, false, false, false, false, false] rfl rfl (by kernel_rfl) (fun _ _ _ h => h) (Or.inl ⟨by rfl, ?_⟩) ?_ ?_
              rotate_left
              · intro w'
                go_simp
                with_reducible rfl
              rotate_left
              · simp only [Act.put, List.setIfInBounds_toArray, List.set_cons_zero, List.set_cons_succ, i64_w, i32_w]
                rfl
              refine pure_ (i := 10) (N := some 72) (v := ?_) (a' := ?_) #[true, true, true, true, true, true, false, false, true, true, true, false, false, false, false, false, false] rfl rfl (by kernel_rfl) (fun _ _ _ h => h) (Or.inl ⟨by rfl, ?_⟩) ?_ ?_
              rotate_left
              · intro w'
                go_simp
                with_reducible rfl
              rotate_left
              · simp only [Act.put, List.setIfInBounds_toArray, List.set_cons_zero, List.set_cons_succ, i64_w, i32_w]
                rfl
              refine pure_ (i := 11) (N := some 73) (v := ?_) (a' := ?_) #[true, true, true, true, true, true, false, false, true, true, true, true, false, false, false, false, false] rfl rfl (by kernel_rfl) (fun _ _ _ h => h) (Or.inl ⟨by rfl, ?_⟩) ?_ ?_
              rotate_left
              · intro w'
                go_simp
                with_reducible rfl
              rotate_left
              · simp only [Act.put, List.setIfInBounds_toArray, List.set_cons_zero, List.set_cons_succ, i64_w, i32_w]
                rfl
              refine pure_ (i := 12) (N := some 74) (v := ?_) (a' := ?_) #[true, true, true, true, true, true, false, false, true, true, true, true, true, false, false, false, false] rfl rfl (by kernel_rfl) (fun _ _ _ h => h) (Or.inl ⟨by rfl, ?_⟩) ?_ ?_
              rotate_left
              · intro w'
                go_simp
                with_reducible rfl
              rotate_left
              · simp only [Act.put, List.setIfInBounds_toArray, List.set_cons_zero, List.set_cons_succ, i64_w, i32_w]
                rfl
              refine pure_ (i := 13) (N := some 75) (v := ?_) (a' := ?_) #[true, true, true, true, true, true, false, false, true, true, true, true, true, true, false, false, false] rfl rfl (by kernel_rfl) (fun _ _ _ h => h) (Or.inl ⟨by rfl, ?_⟩) ?_ ?_
              rotate_left
              · intro w'
                go_simp
                with_reducible rfl
              rotate_left
              · simp only [Act.put, List.setIfInBounds_toArray, List.set_cons_zero, List.set_cons_succ, i64_w, i32_w]
                rfl
              refine take_ (i := 6) (N := some 68) (v := ?_) (a' := ?_) #[true, true, true, true, true, true, true, false, true, true, true, true, true, true, false, false, false] rfl rfl (by kernel_rfl) (fun _ _ _ h => h) (Or.inl ⟨by rfl, ?_⟩) hHeld ?_ ?_
              rotate_left
              · intro w' s0
                go_simp
                with_reducible rfl
              rotate_left
              · simp only [Act.put, List.setIfInBounds_toArray, List.set_cons_zero, List.set_cons_succ, i64_w, i32_w]
                rfl
              refine take_ (i := 14) (N := some 76) (v := ?_) (a' := ?_) #[true, true, true, true, true, true, true, false, true, true, true, true, true, true, true, false, false] rfl rfl (by kernel_rfl) (fun _ _ _ h => h) (Or.inl ⟨by rfl, ?_⟩) hHeld ?_ ?_
              rotate_left
              · intro w' s0
                go_simp
                with_reducible rfl
              rotate_left
              · simp only [Act.put, List.setIfInBounds_toArray, List.set_cons_zero, List.set_cons_succ, i64_w, i32_w]
                rfl
              refine one_ (i := 7) (N := some 69) #[true, true, true, true, true, true, true, true, true, true, true, true, true, true, true, false, false] rfl rfl (by kernel_rfl) (by decide) (fun K hK => ?_)
              refine goes_ Try.func10 (by kernel_rfl) rfl #[ptr p, .int .i64 x2] (by rfl) rfl rfl (by simp only [List.map_toArray, List.map_cons, List.map_nil]; rfl) ?_
              with_reducible refine (HEX.out).mono ?_
              rintro e w5 ⟨rfl, hA5, hB5⟩
              refine ⟨_, rfl, ?_⟩
              have HB5 : Aside0 (Below W.heap.size W w5) := ⟨HB.out.trans ((bl_drew (Below.refl W.heap.size wr)).trans hB5)⟩
              have HEY := Aside0.mk (rexp_store hA5.swap HVF.out.2.1 HVF.out.2.2 x2)
              obtain ⟨-, -, s2, -⟩ := HQ.out w5 HB5.out
              clear hA5 hB5
              refine hK.out _ _ (s2) (fun hHeld => ?_)
              clear hK K
              refine norm_ (a' := ?_) ?_ ?_
              rotate_left
              · show Act.put _ (some 69) _ = _
                simp only [Act.put, List.setIfInBounds_toArray, List.set_cons_zero, List.set_cons_succ, i64_w, i32_w]
                rfl
              refine last_ (i := 15) (N := some 77) #[true, true, true, true, true, true, true, true, true, true, true, true, true, true, true, true, false] rfl rfl (by kernel_rfl) (by decide) (fun K hK => ?_)
              refine goes_ Try.func13 (by kernel_rfl) rfl #[ptr q, .int .i64 x2] (by rfl) rfl rfl (by simp only [List.map_toArray, List.map_cons, List.map_nil]; rfl) ?_
              with_reducible refine (HEY.out).mono ?_
              rintro e w6 ⟨rfl, hA6, hB6⟩
              refine ⟨_, rfl, ?_⟩
              have HA6 := Aside0.mk hA6
              have HB6 := Aside0.mk (HB5.out.trans hB6)
              clear hA6 hB6
              refine hK.out _ _ ?_
              clear hK K
              refine norm_ (a' := ?_) ?_ ?_
              rotate_left
              · show Act.put _ (some 77) _ = _
                simp only [Act.put, List.setIfInBounds_toArray, List.set_cons_zero, List.set_cons_succ, i64_w, i32_w]
                rfl
              refine pure_ (i := 16) (N := some 78) (v := ?_) (a' := ?_) #[true, true, true, true, true, true, true, true, true, true, true, true, true, true, true, true, true] rfl rfl (by kernel_rfl) (fun _ _ _ h => h) (Or.inl ⟨by rfl, ?_⟩) ?_ ?_
              rotate_left
              · intro w'
                go_simp
                with_reducible rfl
              rotate_left
              · simp only [Act.put, List.setIfInBounds_toArray, List.set_cons_zero, List.set_cons_succ, i64_w, i32_w]
                rfl
              refine done_ (by kernel_rfl) ?_

              rw [← HT2.out] at HA6
              clear q2 HEX HEY HB5 HB HA HT2 HVF HQ HCL HGK HHC hlsl
              have hl8 := (store_facts HA6.out.swap).2.2.1
              have HAL := Aside0.mk (st_all HA6.out.swap)
              have HLV := Aside0.mk (all_fin HV1.out.2)
              rw [HLV.out] at HAL
              go_wp2_with fail
              refine HAL.out.mono ?_
              rintro e v1 ⟨Aa, na, ca, rfl, hA7, hB7⟩
              have HB7 := Aside0.mk (HB6.out.trans hB7)
              have HSE := Aside0.mk (st_sel hA7.swap (Am := A1) (cm := c1) (m := l1) a2 a3 (fun W' _ hb => Kd.C_below HM.out (HB7.out.trans hb)) HCC.out.2)
              clear hA7 hB7 HAL HA6 HB6
              go_wp2_with fail
              refine HSE.out.mono ?_
              rintro e v2 ⟨Ab, nb, cb, rfl, hA8, hB8⟩
              have HB8 := Aside0.mk (HB7.out.trans hB8)
              have HA8 : Aside0 (Has W.heap.size v2.drew [findsT (.slice Ab nb cb) (selV V1 l1 a2 a3), storeT p V1, findsT (.slice Aa na ca) V1, refT q V1]) := ⟨hA8.drew⟩
              have HB8' : Aside0 (Below W.heap.size W v2.drew) := ⟨bl_drew HB8.out⟩
              clear hA8 hB8 HB7 HSE HB8
              obtain ⟨rfl, hca, hCa⟩ := finds_64 (has_mid (As := [_, _]) HA8.out)
              have HXA := Aside0.mk (finds_max (has_mid (As := [_, _]) HA8.out))
              obtain ⟨Ar, cr, qr, hcr, hCr⟩ := ref_78 (has_mid (As := [_, _, _]) HA8.out)
              have HS1 := Aside0.mk (same_c hCa hca hCr hcr HXA.out hl8)
              have HLE := Aside0.mk (st_len HA8.out.swap)
              obtain ⟨rfl, hcb, -⟩ := finds_64 HA8.out
              have HXB := Aside0.mk (finds_max HA8.out)
              have hsl : (selV V1 l1 a2 a3).length ≤ 8 := Nat.le_trans (finds_len _ _) hl8
              have HL8 := Aside0.mk (show V1.length ≤ 8 ∧ (selV V1 l1 a2 a3).length ≤ 8 from ⟨hl8, hsl⟩)
              obtain ⟨R, hR⟩ : ∃ R, selV V1 l1 a2 a3 = R := ⟨_, rfl⟩
              have HRR := Aside0.mk hR
              rw [hR] at HA8 HXB HL8 hcb
              rw [hR]
              have HCB := Aside0.mk hcb
              clear hR hsl hca hCa hcr hCr hcb
              go_wp2_with fail
              refine start_ (n := 27) (S := fun w' => w'.cell? ⟨q, 0, none⟩ = some (.slice Ar V1.length cr)) (ds := [23, 24]) #[false, false, false, false, false, false, false, false, false, false, false, false, false, false, false, false, false, false, false, false, false, false, false, false, false, false, false] (by kernel_rfl) rfl rfl (qr) (fun hHeld => ?_)
              refine pure_ (i := 0) (N := some 126) (v := ?_) (a' := ?_) #[true, false, false, false, false, false, false, false, false, false, false, false, false, false, false, false, false, false, false, false, false, false, false, false, false, false, false] rfl rfl (by kernel_rfl) (fun _ _ _ h => h) (Or.inl ⟨by rfl, ?_⟩) ?_ ?_
              rotate_left
              · intro w'
                go_simp
                with_reducible rfl
              rotate_left
              · simp only [Act.put, List.setIfInBounds_toArray, List.set_cons_zero, List.set_cons_succ, i64_w, i32_w]
                rfl
              refine pure_ (i := 2) (N := some 128) (v := ?_) (a' := ?_) #[true, false, true, false, false, false, false, false, false, false, false, false, false, false, false, false, false, false, false, false, false, false, false, false, false, false, false] rfl rfl (by kernel_rfl) (fun _ _ _ h => h) (Or.inl ⟨by rfl, ?_⟩) ?_ ?_
              rotate_left
              · intro w'
                go_simp
                with_reducible rfl
              rotate_left
              · simp only [Act.put, List.setIfInBounds_toArray, List.set_cons_zero, List.set_cons_succ, i64_w, i32_w]
                rfl
              refine pure_ (i := 3) (N := some 129) (v := ?_) (a' := ?_) #[true, false, true, true, false, false, false, false, false, false, false, false, false, false, false, false, false, false, false, false, false, false, false, false, false, false, false] rfl rfl (by kernel_rfl) (fun _ _ _ h => h) (Or.inl ⟨by rfl, ?_⟩) ?_ ?_
              rotate_left
              · intro w'
                go_simp
                with_reducible rfl
              rotate_left
              · simp only [Act.put, List.setIfInBounds_toArray, List.set_cons_zero, List.set_cons_succ, i64_w, i32_w]
                rfl
              refine pure_ (i := 4) (N := some 130) (v := ?_) (a' := ?_) #[true, false, true, true, true, false, false, false, false, false, false, false, false, false, false, false, false, false, false, false, false, false, false, false, false, false, false] rfl rfl (by kernel_rfl) (fun _ _ _ h => h) (Or.inl ⟨by rfl, ?_⟩) ?_ ?_
              rotate_left
              · intro w'
                go_simp
                with_reducible rfl
              rotate_left
              · simp only [Act.put, List.setIfInBounds_toArray, List.set_cons_zero, List.set_cons_succ, i64_w, i32_w]
                rfl
              refine take_ (i := 5) (N := some 131) (v := ?_) (a' := ?_) #[true, false, true, true, true, true, false, false, false, false, false, false, false, false, false, false, false, false, false, false, false, false, false, false, false, false, false] rfl rfl (by kernel_rfl) (fun _ _ _ h => h) (Or.inl ⟨by rfl, ?_⟩) hHeld ?_ ?_
              rotate_left
              · intro w' s0
                go_simp
                with_reducible rfl
              rotate_left
              · simp only [Act.put, List.setIfInBounds_toArray, List.set_cons_zero, List.set_cons_succ, i64_w, i32_w]
                rfl
              refine pure_ (i := 6) (N := some 132) (v := ?_) (a' := ?_) #[true, false, true, true, true, true, true, false, false, false, false, false, false, false, false, false, false, false, false, false, false, false, false, false, false, false, false] rfl rfl (by kernel_rfl) (fun _ _ _ h => h) (Or.inl ⟨by rfl, ?_⟩) ?_ ?_
              rotate_left
              · intro w'
                go_simp
                with_reducible rfl
              rotate_left
              · simp only [Act.put, List.setIfInBounds_toArray, List.set_cons_zero, List.set_cons_succ, i64_w, i32_w]
                rfl
              refine one_ (i := 1) (N := some 127) #[true, true, true, true, true, true, true, false, false, false, false, false, false, false, false, false, false, false, false, false, false, false, false, false, false, false, false] rfl rfl (by kernel_rfl) (by decide) (fun K hK => ?_)
              refine goes_ Try.func11 (by kernel_rfl) rfl #[ptr p] (by rfl) rfl rfl (by simp only [List.map_toArray, List.map_cons, List.map_nil]; rfl) ?_
              with_reducible refine (HLE.out).mono ?_
              rintro e v3 ⟨rfl, hw3⟩
              refine ⟨_, rfl, ?_⟩
              have HA9 : Aside0 (Has W.heap.size v3 _) := ⟨hw3 ▸ HA8.out⟩
              have HB9 : Aside0 (Below W.heap.size W v3) := ⟨hw3 ▸ HB8'.out⟩
              have HS2 : Aside0 (Calls Try.prog 17 #[.slice Aa V1.length ca, .slice Ar V1.length cr] v3 fun e w' => e = .returned (.bool true) ∧ Below v3.heap.size v3 w') := ⟨hw3 ▸ HS1.out⟩
              have qr3 : v3.cell? ⟨q, 0, none⟩ = some (.slice Ar V1.length cr) := hw3 ▸ qr
              clear hw3
              refine hK.out _ _ (qr3) (fun hHeld => ?_)
              clear hK K
              refine norm_ (a' := ?_) ?_ ?_
              rotate_left
              · show Act.put _ (some 127) _ = _
                simp only [Act.put, List.setIfInBounds_toArray, List.set_cons_zero, List.set_cons_succ, i64_w, i32_w]
                rfl
              refine pure_ (i := 7) (N := some 133) (v := ?_) (a' := ?_) #[true, true, true, true, true, true, true, true, false, false, false, false, false, false, false, false, false, false, false, false, false, false, false, false, false, false, false] rfl rfl (by kernel_rfl) (fun _ _ _ h => h) (Or.inl ⟨by rfl, ?_⟩) ?_ ?_
              rotate_left
              · intro w'
                go_simp
                with_reducible rfl
              rotate_left
              · simp only [Act.put, List.setIfInBounds_toArray, List.set_cons_zero, List.set_cons_succ, i64_w, i32_w]
                rfl
              refine pure_ (i := 8) (N := some 134) (v := ?_) (a' := ?_) #[true, true, true, true, true, true, true, true, true, false, false, false, false, false, false, false, false, false, false, false, false, false, false, false, false, false, false] rfl rfl (by kernel_rfl) (fun _ _ _ h => h) (Or.inl ⟨by rfl, ?_⟩) ?_ ?_
              rotate_left
              · intro w'
                go_simp
                with_reducible rfl
              rotate_left
              · simp only [Act.put, List.setIfInBounds_toArray, List.set_cons_zero, List.set_cons_succ, i64_w, i32_w]
                rfl
              refine pure_ (i := 9) (N := some 135) (v := ?_) (a' := ?_) #[true, true, true, true, true, true, true, true, true, true, false, false, false, false, false, false, false, false, false, false, false, false, false, false, false, false, false] rfl rfl (by kernel_rfl) (fun _ _ _ h => h) (Or.inl ⟨by rfl, ?_⟩) ?_ ?_
              rotate_left
              · intro w'
                go_simp
                with_reducible rfl
              rotate_left
              · simp only [Act.put, List.setIfInBounds_toArray, List.set_cons_zero, List.set_cons_succ, i64_w, i32_w]
                rfl
              refine pure_ (i := 10) (N := some 136) (v := ?_) (a' := ?_) #[true, true, true, true, true, true, true, true, true, true, true, false, false, false, false, false, false, false, false, false, false, false, false, false, false, false, false] rfl rfl (by kernel_rfl) (fun _ _ _ h => h) (Or.inl ⟨by rfl, ?_⟩) ?_ ?_
              rotate_left
              · intro w'
                go_simp
                with_reducible rfl
              rotate_left
              · simp only [Act.put, List.setIfInBounds_toArray, List.set_cons_zero, List.set_cons_succ, i64_w, i32_w]
                rfl
              refine pure_ (i := 11) (N := some 137) (v := ?_) (a' := ?_) #[true, true, true, true, true, true, true, true, true, true, true, true, false, false, false, false, false, false, false, false, false, false, false, false, false, false, false] rfl rfl (by kernel_rfl) (fun _ _ _ h => h) (Or.inl ⟨by rfl, ?_⟩) ?_ ?_
              rotate_left
              · intro w'
                go_simp
                with_reducible rfl
              rotate_left
              · simp only [Act.put, List.setIfInBounds_toArray, List.set_cons_zero, List.set_cons_succ, i64_w, i32_w]
                rfl
              refine pure_ (i := 12) (N := some 138) (v := ?_) (a' := ?_) #[true, true, true, true, true, true, true, true, true, true, true, true, true, false, false, false, false, false, false, false, false, false, false, false, false, false, false] rfl rfl (by kernel_rfl) (fun _ _ _ h => h) (Or.inl ⟨by rfl, ?_⟩) ?_ ?_
              rotate_left
              · intro w'
                go_simp
                with_reducible rfl
              rotate_left
              · simp only [Act.put, List.setIfInBounds_toArray, List.set_cons_zero, List.set_cons_succ, i64_w, i32_w]
                rfl
              refine take_ (i := 13) (N := some 139) (v := ?_) (a' := ?_) #[true, true, true, true, true, true, true, true, true, true, true, true, true, true, false, false, false, false, false, false, false, false, false, false, false, false, false] rfl rfl (by kernel_rfl) (fun _ _ _ h => h) (Or.inl ⟨by rfl, ?_⟩) hHeld ?_ ?_
              rotate_left
              · intro w' s0
                go_simp
                with_reducible rfl
              rotate_left
              · simp only [Act.put, List.setIfInBounds_toArray, List.set_cons_zero, List.set_cons_succ, i64_w, i32_w]
                rfl
              refine one_ (i := 14) (N := some 140) #[true, true, true, true, true, true, true, true, true, true, true, true, true, true, true, false, false, false, false, false, false, false, false, false, false, false, false] rfl rfl (by kernel_rfl) (by decide) (fun K hK => ?_)
              refine goes_ Try.func17 (by kernel_rfl) rfl #[.slice Aa V1.length ca, .slice Ar V1.length cr] (by rfl) rfl rfl (by simp only [List.map_toArray, List.map_cons, List.map_nil]; rfl) ?_
              with_reducible refine (HS2.out).mono ?_
              rintro e v4 ⟨rfl, hb4⟩
              refine ⟨_, rfl, ?_⟩
              have HA10 := Aside0.mk (HA9.out.below hb4)
              have HB10 := Aside0.mk (HB9.out.trans (hb4.mono HA9.out.size))
              have HRS := Aside0.mk (rsel_store (has_mid (As := [_, _, _]) HA10.out) (fun v hv => (HV1.out.1 v hv).2) HL8.out.1 (Am := A1) (cm := c1) (m := l1) a2 a3 (fun W' _ hb => Kd.C_below HM.out (HB10.out.trans hb)) HCC.out.2)
              rw [HRR.out] at HRS
              have qr4 : v4.cell? ⟨q, 0, none⟩ = some (.slice Ar V1.length cr) := cell_bl (B := 0) hb4 qr3
              clear hb4
              refine hK.out _ _ (qr4) (fun hHeld => ?_)
              clear hK K
              refine norm_ (a' := ?_) ?_ ?_
              rotate_left
              · show Act.put _ (some 140) _ = _
                simp only [Act.put, List.setIfInBounds_toArray, List.set_cons_zero, List.set_cons_succ, i64_w, i32_w]
                rfl
              refine pure_ (i := 15) (N := some 141) (v := ?_) (a' := ?_) #[true, true, true, true, true, true, true, true, true, true, true, true, true, true, true, true, false, false, false, false, false, false, false, false, false, false, false] rfl rfl (by kernel_rfl) (fun _ _ _ h => h) (Or.inl ⟨by rfl, ?_⟩) ?_ ?_
              rotate_left
              · intro w'
                go_simp
                with_reducible rfl
              rotate_left
              · simp only [Act.put, List.setIfInBounds_toArray, List.set_cons_zero, List.set_cons_succ, i64_w, i32_w]
                rfl
              refine pure_ (i := 16) (N := some 142) (v := ?_) (a' := ?_) #[true, true, true, true, true, true, true, true, true, true, true, true, true, true, true, true, true, false, false, false, false, false, false, false, false, false, false] rfl rfl (by kernel_rfl) (fun _ _ _ h => h) (Or.inl ⟨by rfl, ?_⟩) ?_ ?_
              rotate_left
              · intro w'
                go_simp
                with_reducible rfl
              rotate_left
              · simp only [Act.put, List.setIfInBounds_toArray, List.set_cons_zero, List.set_cons_succ, i64_w, i32_w]
                rfl
              refine pure_ (i := 17) (N := some 143) (v := ?_) (a' := ?_) #[true, true, true, true, true, true, true, true, true, true, true, true, true, true, true, true, true, true, false, false, false, false, false, false, false, false, false] rfl rfl (by kernel_rfl) (fun _ _ _ h => h) (Or.inl ⟨by rfl, ?_⟩) ?_ ?_
              rotate_left
              · intro w'
                go_simp
                with_reducible rfl
              rotate_left
              · simp only [Act.put, List.setIfInBounds_toArray, List.set_cons_zero, List.set_cons_succ, i64_w, i32_w]
                rfl
              refine pure_ (i := 18) (N := some 144) (v := ?_) (a' := ?_) #[true, true, true, true, true, true, true, true, true, true, true, true, true, true, true, true, true, true, true, false, false, false, false, false, false, false, false] rfl rfl (by kernel_rfl) (fun _ _ _ h => h) (Or.inl ⟨by rfl, ?_⟩) ?_ ?_
              rotate_left
              · intro w'
                go_simp
                with_reducible rfl
              rotate_left
              · simp only [Act.put, List.setIfInBounds_toArray, List.set_cons_zero, List.set_cons_succ, i64_w, i32_w]
                rfl
              refine pure_ (i := 19) (N := some 145) (v := ?_) (a' := ?_) #[true, true, true, true, true, true, true, true, true, true, true, true, true, true, true, true, true, true, true, true, false, false, false, false, false, false, false] rfl rfl (by kernel_rfl) (fun _ _ _ h => h) (Or.inl ⟨by rfl, ?_⟩) ?_ ?_
              rotate_left
              · intro w'
                go_simp
                with_reducible rfl
              rotate_left
              · simp only [Act.put, List.setIfInBounds_toArray, List.set_cons_zero, List.set_cons_succ, i64_w, i32_w]
                rfl
              refine pure_ (i := 20) (N := some 146) (v := ?_) (a' := ?_) #[true, true, true, true, true, true, true, true, true, true, true, true, true, true, true, true, true, true, true, true, true, false, false, false, false, false, false] rfl rfl (by kernel_rfl) (fun _ _ _ h => h) (Or.inl ⟨by rfl, ?_⟩) ?_ ?_
              rotate_left
              · intro w'
                go_simp
                with_reducible rfl
              rotate_left
              · simp only [Act.put, List.setIfInBounds_toArray, List.set_cons_zero, List.set_cons_succ, i64_w, i32_w]
                rfl
              refine pure_ (i := 21) (N := some 147) (v := ?_) (a' := ?_) #[true, true, true, true, true, true, true, true, true, true, true, true, true, true, true, true, true, true, true, true, true, true, false, false, false, false, false] rfl rfl (by kernel_rfl) (fun _ _ _ h => h) (Or.inl ⟨by rfl, ?_⟩) ?_ ?_
              rotate_left
              · intro w'
                go_simp
                with_reducible rfl
              rotate_left
              · simp only [Act.put, List.setIfInBounds_toArray, List.set_cons_zero, List.set_cons_succ, i64_w, i32_w]
                rfl
              refine pure_ (i := 22) (N := some 148) (v := ?_) (a' := ?_) #[true, true, true, true, true, true, true, true, true, true, true, true, true, true, true, true, true, true, true, true, true, true, true, false, false, false, false] rfl rfl (by kernel_rfl) (fun _ _ _ h => h) (Or.inl ⟨by rfl, ?_⟩) ?_ ?_
              rotate_left
              · intro w'
                go_simp
                with_reducible rfl
              rotate_left
              · simp only [Act.put, List.setIfInBounds_toArray, List.set_cons_zero, List.set_cons_succ, i64_w, i32_w]
                rfl
              refine last_ (i := 23) (N := some 149) #[true, true, true, true, true, true, true, true, true, true, true, true, true, true, true, true, true, true, true, true, true, true, true, true, false, false, false] rfl rfl (by kernel_rfl) (by decide) (fun K hK => ?_)
              refine goes_ Try.func18 (by kernel_rfl) rfl #[ptr q, .slice A1 l1.length c1, .int .i64 a2, .int .i64 a3] (by rfl) rfl rfl (by simp only [List.map_toArray, List.map_cons, List.map_nil]; rfl) ?_
              with_reducible refine (HRS.out).mono ?_
              rintro e v5 ⟨Az, cz, rfl, hcz, hCz, hA5, hB5⟩
              refine ⟨_, rfl, ?_⟩
              have HB11 := Aside0.mk (HB10.out.trans hB5)
              have HA11 : Aside0 (Has W.heap.size v5 [refT q V1, findsT (.slice Ab R.length cb) R, storeT p V1, findsT (.slice Aa V1.length ca) V1]) := ⟨hA5⟩
              have HS3 := Aside0.mk (same_c (finds_64 HA11.out.swap).2.2 HCB.out hCz hcz HXB.out HL8.out.2)
              clear hcz hCz hA5 hB5
              refine hK.out _ _ ?_
              clear hK K
              refine norm_ (a' := ?_) ?_ ?_
              rotate_left
              · show Act.put _ (some 149) _ = _
                simp only [Act.put, List.setIfInBounds_toArray, List.set_cons_zero, List.set_cons_succ, i64_w, i32_w]
                rfl
              refine last_ (i := 24) (N := some 150) #[true, true, true, true, true, true, true, true, true, true, true, true, true, true, true, true, true, true, true, true, true, true, true, true, true, false, false] rfl rfl (by kernel_rfl) (by decide) (fun K hK => ?_)
              refine goes_ Try.func17 (by kernel_rfl) rfl #[.slice Ab R.length cb, .slice Az R.length cz] (by rfl) rfl rfl (by simp only [List.map_toArray, List.map_cons, List.map_nil]; rfl) ?_
              with_reducible refine (HS3.out).mono ?_
              rintro e v6 ⟨rfl, hb6⟩
              refine ⟨_, rfl, ?_⟩
              have HA12 := Aside0.mk (HA11.out.below hb6)
              have HB12 := Aside0.mk (HB11.out.trans (hb6.mono HA11.out.size))
              clear hb6
              refine hK.out _ _ ?_
              clear hK K
              refine norm_ (a' := ?_) ?_ ?_
              rotate_left
              · show Act.put _ (some 150) _ = _
                simp only [Act.put, List.setIfInBounds_toArray, List.set_cons_zero, List.set_cons_succ, i64_w, i32_w]
                rfl
              refine pure_ (i := 25) (N := some 151) (v := ?_) (a' := ?_) #[true, true, true, true, true, true, true, true, true, true, true, true, true, true, true, true, true, true, true, true, true, true, true, true, true, true, false] rfl rfl (by kernel_rfl) (fun _ _ _ h => h) (Or.inl ⟨by rfl, ?_⟩) ?_ ?_
              rotate_left
              · intro w'
                go_simp
                with_reducible rfl
              rotate_left
              · simp only [Act.put, List.setIfInBounds_toArray, List.set_cons_zero, List.set_cons_succ, i64_w, i32_w]
                rfl
              refine pure_ (i := 26) (N := some 152) (v := ?_) (a' := ?_) #[true, true, true, true, true, true, true, true, true, true, true, true, true, true, true, true, true, true, true, true, true, true, true, true, true, true, true] rfl rfl (by kernel_rfl) (fun _ _ _ h => h) (Or.inl ⟨by rfl, ?_⟩) ?_ ?_
              rotate_left
              · intro w'
                go_simp
                with_reducible rfl
              rotate_left
              · simp only [Act.put, List.setIfInBounds_toArray, List.set_cons_zero, List.set_cons_succ, i64_w, i32_w]
                rfl
              refine done_ (by kernel_rfl) ?_

              have HSP := Aside0.mk (spoil_c (has_mid (As := [_, _, _]) HA12.out) HL8.out.1)
              clear HA8 HB8' HS1 HS2 HS3 HLE HA9 HB9 HA10 HB10 HRS HA11 HB11 HA12 HXA HXB qr
              go_wp2_with fail
              refine HSP.out.mono ?_
              rintro e v7 ⟨rfl, hA13, hB13⟩
              have HB13 := Aside0.mk (HB12.out.trans hB13)
              have HSQ := Aside0.mk (spoil_c hA13.swap HL8.out.2)
              clear hA13 hB13 HB12 HSP
              go_wp2_with fail
              refine HSQ.out.mono ?_
              rintro e v8 ⟨rfl, hA14, hB14⟩
              have HB14 := Aside0.mk (HB13.out.trans hB14)
              have HA14 : Aside0 (Has W.heap.size v8 [refT q V1, storeT p V1]) := ⟨hA14⟩
              rw [← HVV.out] at HA14
              clear hA14 hB14 HB13 HSQ
              go_wp2_with fail
              go_roundw
              case rel => exact ⟨k + 1, by first | rfl | rw [ek], hlt1, HA14, HB14⟩
              case measure => first | (simp [intOf]; omega) | (rw [ek]; simp [intOf]; omega)
            | false =>
              have HT2 : Aside0 (runV (l0.take (k + 1)) = (addV (runV (l0.take k)) x1 ⟨x2, x3⟩).2) := ⟨HT.out⟩
              clear HT
              obtain ⟨V1, hV1⟩ : ∃ V1, runV (l0.take (k + 1)) = V1 := ⟨_, rfl⟩
              rw [hV1] at HV1 HT2
              have HVV := Aside0.mk hV1
              clear hV1
              generalize runV (l0.take k) = V at HA HT2 HVF
              obtain ⟨ev, hev⟩ : ∃ ev, (addV V x1 ⟨x2, x3⟩).1 = ev := ⟨_, rfl⟩
              have HEV := Aside0.mk hev
              clear hev
              have HA6 := Aside0.mk (lit_0 kL HA.out 31)
              have HB6 : Aside0 (Below W.heap.size W (wr.alloc (.cells #[] 31))) := ⟨HB.out.alloc HA.out.size _⟩
              have HC6 := Aside0.mk (Kd.C_below HCL.out HB6.out)
              clear q0 q2 q3
              obtain ⟨q0, -, -, -⟩ := HQ.out wr HB.out
              have q1a := (HQ.out _ HB6.out).2.1
              clear HA HB
              go_wp2_with (refine rows_app kL HA6.out rfl _ _ 32 (.agg #[.string ⟨#[]⟩, .string ⟨#[]⟩]) 32 rfl Try.underlying32 infL rfl (by decide) (by decide) Al cl rfl rfl HC6.out (fun x cs hx => kL_KM x cs hx) (by show (0 + x1.length) * 32 ≤ 140737488355328; omega) ?_; rintro u7 w7 hA7 hB7; have hA7 : Has W.heap.size w7 (rowL u7 x1 :: _) := hA7; obtain ⟨A7, c7, rfl, hc7, -⟩ := hA7.reads (d := kL) (e := 31) (v := u7) (xs := x1) (List.mem_cons_self ..); have HA7 := Aside0.mk hA7; have HB7 := Aside0.mk (HB6.out.trans hB7); clear hA7 hB7 HA6 HB6 HC6; have HC7 := Aside0.mk hc7; have HAD := Aside0.mk (st_add (has_mid (As := [_, _]) HA7.out) (A := A7) (c := c7) (ls := x1) ⟨x2, x3⟩ (fun w' h' _ => (row_reads h' (d := kL) (e := 31) (A := A7) (n := x1.length) (c := c7) (xs := x1) (by simp)).2.2) HC7.out (by omega)); clear q0 q1 q1a hc7; obtain ⟨-, -, q2, q3⟩ := HQ.out w7 HB7.out)
              refine HAD.out.mono ?_
              rintro e w8 ⟨rfl, hA8, hB8⟩
              have HB8 := Aside0.mk (HB7.out.trans hB8)
              rw [← HT2.out] at hA8
              have HRA := Aside0.mk (radd_store (has_mid (As := [_, _]) hA8.drew) HVF.out.1 (fun v hv => (HVF.out.2.1 v hv).2) HVF.out.2.2 (A0 := Al) (c0 := cl) (ls := x1) ⟨x2, x3⟩ (fun w' _ hb => Kd.C_below HCL.out ((bl_drew HB8.out).trans hb)) HHC.out HGK.out)
              rw [HEV.out, ← HT2.out] at HRA
              rw [HEV.out]
              clear q2 q3 HAD hA8 hB8 HA7 HB7
              obtain ⟨-, q1, q2, q3⟩ := HQ.out w8 HB8.out
              go_wp2_with fail
              refine start_ (n := 13) (S := fun w' => w'.cell? ⟨(ad.add (k * 4)).block, (ad.add (k * 4)).off + 1, none⟩ = some (.slice Al x1.length cl) ∧ w'.cell? ⟨(ad.add (k * 4)).block, (ad.add (k * 4)).off + 2, none⟩ = some (.int .i64 x2) ∧ w'.cell? ⟨(ad.add (k * 4)).block, (ad.add (k * 4)).off + 3, none⟩ = some (.int .i64 x3)) (ds := [11]) #[false, false, false, false, false, false, false, false, false, false, false, false, false] (by kernel_rfl) rfl rfl ⟨q1, q2, q3⟩ (fun hHeld => ?_)
              refine pure_ (i := 0) (N := some 94) (v := ?_) (a' := ?_) #[true, false, false, false, false, false, false, false, false, false, false, false, false] rfl rfl (by kernel_rfl) (fun _ _ _ h => h) (Or.inl ⟨by rfl, ?_⟩) ?_ ?_
              rotate_left
              · intro w'
                go_simp
                with_reducible rfl
              rotate_left
              · simp only [Act.put, List.setIfInBounds_toArray, List.set_cons_zero, List.set_cons_succ, i64_w, i32_w]
                rfl
              refine pure_ (i := 1) (N := some 95) (v := ?_) (a' := ?_) #[true, true, false, false, false, false, false, false, false, false, false, false, false] rfl rfl (by kernel_rfl) (fun _ _ _ h => h) (Or.inl ⟨by rfl, ?_⟩) ?_ ?_
              rotate_left
              · intro w'
                go_simp
                with_reducible rfl
              rotate_left
              · simp only [Act.put, List.setIfInBounds_toArray, List.set_cons_zero, List.set_cons_succ, i64_w, i32_w]
                rfl
              refine pure_ (i := 2) (N := some 96) (v := ?_) (a' := ?_) #[true, true, true, false, false, false, false, false, false, false, false, false, false] rfl rfl (by kernel_rfl) (fun _ _ _ h => h) (Or.inl ⟨by rfl, ?_⟩) ?_ ?_
              rotate_left
              · intro w'
                go_simp
                with_reducible rfl
              rotate_left
              · simp only [Act.put, List.setIfInBounds_toArray, List.set_cons_zero, List.set_cons_succ, i64_w, i32_w]
                rfl
              refine pure_ (i := 3) (N := some 97) (v := ?_) (a' := ?_) #[true, true, true, true, false, false, false, false, false, false, false, false, false] rfl rfl (by kernel_rfl) (fun _ _ _ h => h) (Or.inl ⟨by rfl, ?_⟩) ?_ ?_
              rotate_left
              · intro w'
                go_simp
                with_reducible rfl
              rotate_left
              · simp only [Act.put, List.setIfInBounds_toArray, List.set_cons_zero, List.set_cons_succ, i64_w, i32_w]
                rfl
              refine pure_ (i := 4) (N := some 98) (v := ?_) (a' := ?_) #[true, true, true, true, true, false, false, false, false, false, false, false, false] rfl rfl (by kernel_rfl) (fun _ _ _ h => h) (Or.inl ⟨by rfl, ?_⟩) ?_ ?_
              rotate_left
              · intro w'
                go_simp
                with_reducible rfl
              rotate_left
              · simp only [Act.put, List.setIfInBounds_toArray, List.set_cons_zero, List.set_cons_succ, i64_w, i32_w]
                rfl
              refine pure_ (i := 6) (N := some 100) (v := ?_) (a' := ?_) #[true, true, true, true, true, false, true, false, false, false, false, false, false] rfl rfl (by kernel_rfl) (fun _ _ _ h => h) (Or.inl ⟨by rfl, ?_⟩) ?_ ?_
              rotate_left
              · intro w'
                go_simp
                with_reducible rfl
              rotate_left
              · simp only [Act.put, List.setIfInBounds_toArray, List.set_cons_zero, List.set_cons_succ, i64_w, i32_w]
                rfl
              refine pure_ (i := 7) (N := some 101) (v := ?_) (a' := ?_) #[true, true, true, true, true, false, true, true, false, false, false, false, false] rfl rfl (by kernel_rfl) (fun _ _ _ h => h) (Or.inl ⟨by rfl, ?_⟩) ?_ ?_
              rotate_left
              · intro w'
                go_simp
                with_reducible rfl
              rotate_left
              · simp only [Act.put, List.setIfInBounds_toArray, List.set_cons_zero, List.set_cons_succ, i64_w, i32_w]
                rfl
              refine pure_ (i := 8) (N := some 102) (v := ?_) (a' := ?_) #[true, true, true, true, true, false, true, true, true, false, false, false, false] rfl rfl (by kernel_rfl) (fun _ _ _ h => h) (Or.inl ⟨by rfl, ?_⟩) ?_ ?_
              rotate_left
              · intro w'
                go_simp
                with_reducible rfl
              rotate_left
              · simp only [Act.put, List.setIfInBounds_toArray, List.set_cons_zero, List.set_cons_succ, i64_w, i32_w]
                rfl
              refine pure_ (i := 9) (N := some 103) (v := ?_) (a' := ?_) #[true, true, true, true, true, false, true, true, true, true, false, false, false] rfl rfl (by kernel_rfl) (fun _ _ _ h => h) (Or.inl ⟨by rfl, ?_⟩) ?_ ?_
              rotate_left
              · intro w'
                go_simp
                with_reducible rfl
              rotate_left
              · simp only [Act.put, List.setIfInBounds_toArray, List.set_cons_zero, List.set_cons_succ, i64_w, i32_w]
                rfl
              refine take_ (i := 5) (N := some 99) (v := ?_) (a' := ?_) #[true, true, true, true, true, true, true, true, true, true, false, false, false] rfl rfl (by kernel_rfl) (fun _ _ _ h => h) (Or.inl ⟨by rfl, ?_⟩) hHeld ?_ ?_
              rotate_left
              · rintro w' ⟨s0, s1, s2⟩
                go_simp
                with_reducible rfl
              rotate_left
              · simp only [Act.put, List.setIfInBounds_toArray, List.set_cons_zero, List.set_cons_succ, i64_w, i32_w]
                rfl
              refine take_ (i := 10) (N := some 104) (v := ?_) (a' := ?_) #[true, true, true, true, true, true, true, true, true, true, true, false, false] rfl rfl (by kernel_rfl) (fun _ _ _ h => h) (Or.inl ⟨by rfl, ?_⟩) hHeld ?_ ?_
              rotate_left
              · rintro w' ⟨s0, s1, s2⟩
                go_simp
                with_reducible rfl
              rotate_left
              · simp only [Act.put, List.setIfInBounds_toArray, List.set_cons_zero, List.set_cons_succ, i64_w, i32_w]
                rfl
              refine last_ (i := 11) (N := some 105) #[true, true, true, true, true, true, true, true, true, true, true, true, false] rfl rfl (by kernel_rfl) (by decide) (fun K hK => ?_)
              refine goes_ Try.func14 (by kernel_rfl) rfl #[ptr q, .slice Al x1.length cl, .agg #[.int .i64 x2, .int .i64 x3]] (by rfl) rfl rfl (by simp only [List.map_toArray, List.map_cons, List.map_nil]; rfl) ?_
              with_reducible refine (HRA.out).mono ?_
              rintro e w9 ⟨rfl, hA9, hB9⟩
              refine ⟨_, rfl, ?_⟩
              have HA9 := Aside0.mk hA9
              have HB9 := Aside0.mk ((bl_drew HB8.out).trans hB9)
              clear hA9 hB9
              refine hK.out _ _ ?_
              clear hK K
              refine norm_ (a' := ?_) ?_ ?_
              rotate_left
              · show Act.put _ (some 105) _ = _
                simp only [Act.put, List.setIfInBounds_toArray, List.set_cons_zero, List.set_cons_succ, i64_w, i32_w]
                rfl
              refine pure_ (i := 12) (N := some 15) (v := ?_) (a' := ?_) #[true, true, true, true, true, true, true, true, true, true, true, true, true] rfl rfl (by kernel_rfl) (fun _ _ _ h => h) (Or.inl ⟨by rfl, ?_⟩) ?_ ?_
              rotate_left
              · intro w'
                go_simp
                with_reducible rfl
              rotate_left
              · simp only [Act.put, List.setIfInBounds_toArray, List.set_cons_zero, List.set_cons_succ, i64_w, i32_w]
                rfl
              refine done_ (by kernel_rfl) ?_

              have HA10 : Aside0 (Has W.heap.size w9 [refT q V1, storeT p V1, rowL (.slice A7 x1.length c7) x1]) := ⟨HA9.out⟩
              clear HRA HA9 q1 q2 q3 HB8 HT2 HVF HQ HCL HGK HHC HEV HC7
              go_wp2_with fail
              go_loopw [16] (fun i wr => ∃ (j : Nat) (ys : List LB), i = .int .i64 j ∧ j ≤ x1.length ∧ ys.length = x1.length ∧ Aside0 (Has W.heap.size wr [refT q V1, storeT p V1, rowL (.slice A7 x1.length c7) ys]) ∧ Aside0 (Below W.heap.size W wr)) (fun i _ => x1.length - (intOf i).toNat)
              case atStart => exact ⟨0, x1, rfl, by omega, rfl, HA10, HB9⟩
              case round =>
                clear HA10 HB9
                obtain ⟨j, ys, rfl, hj, hys, HA, HB⟩ := hrel
                by_cases hlj : j < x1.length
                · have e1 : decide ((j : Int) < (x1.length : Int)) = true := decide_eq_true (by omega)
                  have e1' : (j : Int) < (x1.length : Int) := by omega
                  have e2 : decide (0 ≤ (j : Int)) = true := decide_eq_true (by omega)
                  have ej : wrap64 ((j : Int) + 1) = ((j + 1 : Nat) : Int) := (w64 (x := (j : Int) + 1) (by omega) (by omega)).trans (by omega)
                  obtain ⟨g1, hg1, ⟨v0, z0⟩, ⟨v1, z1⟩, f0, f1, hA2, hB2⟩ := row_put2 (d := kL) (As := [refT q V1, storeT p V1]) (Bs := []) rfl HA.out j (by omega) (x' := (⟨⟨#[111, 116, 104, 101, 114]⟩, ⟨#[]⟩⟩ : LB)) (u0 := .string ⟨#[111, 116, 104, 101, 114]⟩) (u1 := .string ⟨#[]⟩) (k31_mkM _ _ _ (⟨⟨#[111, 116, 104, 101, 114]⟩, ⟨#[]⟩⟩ : LB))
                  subst hg1
                  have hys2 : Aside0 ((ys.set j (⟨⟨#[111, 116, 104, 101, 114]⟩, ⟨#[]⟩⟩ : LB)).length = x1.length) := ⟨by rw [List.length_set]; exact hys⟩
                  have HA2 := Aside0.mk hA2
                  have HB2 := Aside0.mk (HB.out.trans hB2)
                  clear hA2 hB2 HA HB
                  go_wp2_with fail
                  go_roundw
                  case rel => exact ⟨j + 1, _, by first | rfl | rw [ej], by omega, hys2.out, HA2, HB2⟩
                  case measure => first | (simp [intOf]; omega) | (rw [ej]; simp [intOf]; omega)
                · obtain rfl : j = x1.length := by omega
                  have e1 : decide ((x1.length : Int) < (x1.length : Int)) = false := decide_eq_false (by omega)
                  have HA6 : Aside0 (Has W.heap.size wr [refT q V1, storeT p V1]) := ⟨has_sub HA.out (by simp)⟩
                  clear hlj hj HA hys
                  go_wp2_with fail
                  have hl8 := (store_facts HA6.out.swap).2.2.1
                  have HAL := Aside0.mk (st_all HA6.out.swap)
                  have HLV := Aside0.mk (all_fin HV1.out.2)
                  rw [HLV.out] at HAL
                  go_wp2_with fail
                  refine HAL.out.mono ?_
                  rintro e v1 ⟨Aa, na, ca, rfl, hA7, hB7⟩
                  have HB7 := Aside0.mk (HB.out.trans hB7)
                  have HSE := Aside0.mk (st_sel hA7.swap (Am := A1) (cm := c1) (m := l1) a2 a3 (fun W' _ hb => Kd.C_below HM.out (HB7.out.trans hb)) HCC.out.2)
                  clear hA7 hB7 HAL HA6 HB
                  go_wp2_with fail
                  refine HSE.out.mono ?_
                  rintro e v2 ⟨Ab, nb, cb, rfl, hA8, hB8⟩
                  have HB8 := Aside0.mk (HB7.out.trans hB8)
                  have HA8 : Aside0 (Has W.heap.size v2.drew [findsT (.slice Ab nb cb) (selV V1 l1 a2 a3), storeT p V1, findsT (.slice Aa na ca) V1, refT q V1]) := ⟨hA8.drew⟩
                  have HB8' : Aside0 (Below W.heap.size W v2.drew) := ⟨bl_drew HB8.out⟩
                  clear hA8 hB8 HB7 HSE HB8
                  obtain ⟨rfl, hca, hCa⟩ := finds_64 (has_mid (As := [_, _]) HA8.out)
                  have HXA := Aside0.mk (finds_max (has_mid (As := [_, _]) HA8.out))
                  obtain ⟨Ar, cr, qr, hcr, hCr⟩ := ref_78 (has_mid (As := [_, _, _]) HA8.out)
                  have HS1 := Aside0.mk (same_c hCa hca hCr hcr HXA.out hl8)
                  have HLE := Aside0.mk (st_len HA8.out.swap)
                  obtain ⟨rfl, hcb, -⟩ := finds_64 HA8.out
                  have HXB := Aside0.mk (finds_max HA8.out)
                  have hsl : (selV V1 l1 a2 a3).length ≤ 8 := Nat.le_trans (finds_len _ _) hl8
                  have HL8 := Aside0.mk (show V1.length ≤ 8 ∧ (selV V1 l1 a2 a3).length ≤ 8 from ⟨hl8, hsl⟩)
                  obtain ⟨R, hR⟩ : ∃ R, selV V1 l1 a2 a3 = R := ⟨_, rfl⟩
                  have HRR := Aside0.mk hR
                  rw [hR] at HA8 HXB HL8 hcb
                  rw [hR]
                  have HCB := Aside0.mk hcb
                  clear hR hsl hca hCa hcr hCr hcb
                  go_wp2_with fail
                  refine start_ (n := 27) (S := fun w' => w'.cell? ⟨q, 0, none⟩ = some (.slice Ar V1.length cr)) (ds := [23, 24]) #[false, false, false, false, false, false, false, false, false, false, false, false, false, false, false, false, false, false, false, false, false, false, false, false, false, false, false] (by kernel_rfl) rfl rfl (qr) (fun hHeld => ?_)
                  refine pure_ (i := 0) (N := some 126) (v := ?_) (a' := ?_) #[true, false, false, false, false, false, false, false, false, false, false, false, false, false, false, false, false, false, false, false, false, false, false, false, false, false, false] rfl rfl (by kernel_rfl) (fun _ _ _ h => h) (Or.inl ⟨by rfl, ?_⟩) ?_ ?_
                  rotate_left
                  · intro w'
                    go_simp
                    with_reducible rfl
                  rotate_left
                  · simp only [Act.put, List.setIfInBounds_toArray, List.set_cons_zero, List.set_cons_succ, i64_w, i32_w]
                    rfl
                  refine pure_ (i := 2) (N := some 128) (v := ?_) (a' := ?_) #[true, false, true, false, false, false, false, false, false, false, false, false, false, false, false, false, false, false, false, false, false, false, false, false, false, false, false] rfl rfl (by kernel_rfl) (fun _ _ _ h => h) (Or.inl ⟨by rfl, ?_⟩) ?_ ?_
                  rotate_left
                  · intro w'
                    go_simp
                    with_reducible rfl
                  rotate_left
                  · simp only [Act.put, List.setIfInBounds_toArray, List.set_cons_zero, List.set_cons_succ, i64_w, i32_w]
                    rfl
                  refine pure_ (i := 3) (N := some 129) (v := ?_) (a' := ?_) #[true, false, true, true, false, false, false, false, false, false, false, false, false, false, false, false, false, false, false, false, false, false, false, false, false, false, false] rfl rfl (by kernel_rfl) (fun _ _ _ h => h) (Or.inl ⟨by rfl, ?_⟩) ?_ ?_
                  rotate_left
                  · intro w'
                    go_simp
                    with_reducible rfl
                  rotate_left
                  · simp only [Act.put, List.setIfInBounds_toArray, List.set_cons_zero, List.set_cons_succ, i64_w, i32_w]
                    rfl
                  refine pure_ (i := 4) (N := some 130) (v := ?_) (a' := ?_) #[true, false, true, true, true, false, false, false, false, false, false, false, false, false, false, false, false, false, false, false, false, false, false, false, false, false, false] rfl rfl (by kernel_rfl) (fun _ _ _ h => h) (Or.inl ⟨by rfl, ?_⟩) ?_ ?_
                  rotate_left
                  · intro w'
                    go_simp
                    with_reducible rfl
                  rotate_left
                  · simp only [Act.put, List.setIfInBounds_toArray, List.set_cons_zero, List.set_cons_succ, i64_w, i32_w]
                    rfl
                  refine take_ (i := 5) (N := some 131) (v := ?_) (a' := ?_) #[true, false, true, true, true, true, false, false, false, false, false, false, false, false, false, false, false, false, false, false, false, false, false, false, false, false, false] rfl rfl (by kernel_rfl) (fun _ _ _ h => h) (Or.inl ⟨by rfl, ?_⟩) hHeld ?_ ?_
                  rotate_left
                  · intro w' s0
                    go_simp
                    with_reducible rfl
                  rotate_left
                  · simp only [Act.put, List.setIfInBounds_toArray, List.set_cons_zero, List.set_cons_succ, i64_w, i32_w]
                    rfl
                  refine pure_ (i := 6) (N := some 132) (v := ?_) (a' := ?_) #[true, false, true, true, true, true, true, false, false, false, false, false, false, false, false, false, false, false, false, false, false, false, false, false, false, false, false] rfl rfl (by kernel_rfl) (fun _ _ _ h => h) (Or.inl ⟨by rfl, ?_⟩) ?_ ?_
                  rotate_left
                  · intro w'
                    go_simp
                    with_reducible rfl
                  rotate_left
                  · simp only [Act.put, List.setIfInBounds_toArray, List.set_cons_zero, List.set_cons_succ, i64_w, i32_w]
                    rfl
                  refine one_ (i := 1) (N := some 127) #[true, true, true, true, true, true, true, false, false, false, false, false, false, false, false, false, false, false, false, false, false, false, false, false, false, false, false] rfl rfl (by kernel_rfl) (by decide) (fun K hK => ?_)
                  refine goes_ Try.func11 (by kernel_rfl) rfl #[ptr p] (by rfl) rfl rfl (by simp only [List.map_toArray, List.map_cons, List.map_nil]; rfl) ?_
                  with_reducible refine (HLE.out).mono ?_
                  rintro e v3 ⟨rfl, hw3⟩
                  refine ⟨_, rfl, ?_⟩
                  have HA9 : Aside0 (Has W.heap.size v3 _) := ⟨hw3 ▸ HA8.out⟩
                  have HB9 : Aside0 (Below W.heap.size W v3) := ⟨hw3 ▸ HB8'.out⟩
                  have HS2 : Aside0 (Calls Try.prog 17 #[.slice Aa V1.length ca, .slice Ar V1.length cr] v3 fun e w' => e = .returned (.bool true) ∧ Below v3.heap.size v3 w') := ⟨hw3 ▸ HS1.out⟩
                  have qr3 : v3.cell? ⟨q, 0, none⟩ = some (.slice Ar V1.length cr) := hw3 ▸ qr
                  clear hw3
                  refine hK.out _ _ (qr3) (fun hHeld => ?_)
                  clear hK K
                  refine norm_ (a' := ?_) ?_ ?_
                  rotate_left
                  · show Act.put _ (some 127) _ = _
                    simp only [Act.put, List.setIfInBounds_toArray, List.set_cons_zero, List.set_cons_succ, i64_w, i32_w]
                    rfl
                  refine pure_ (i := 7) (N := some 133) (v := ?_) (a' := ?_) #[true, true, true, true, true, true, true, true, false, false, false, false, false, false, false, false, false, false, false, false, false, false, false, false, false, false, false] rfl rfl (by kernel_rfl) (fun _ _ _ h => h) (Or.inl ⟨by rfl, ?_⟩) ?_ ?_
                  rotate_left
                  · intro w'
                    go_simp
                    with_reducible rfl
                  rotate_left
                  · simp only [Act.put, List.setIfInBounds_toArray, List.set_cons_zero, List.set_cons_succ, i64_w, i32_w]
                    rfl
                  refine pure_ (i := 8) (N := some 134) (v := ?_) (a' := ?_) #[true, true, true, true, true, true, true, true, true, false, false, false, false, false, false, false, false, false, false, false, false, false, false, false, false, false, false] rfl rfl (by kernel_rfl) (fun _ _ _ h => h) (Or.inl ⟨by rfl, ?_⟩) ?_ ?_
                  rotate_left
                  · intro w'
                    go_simp
                    with_reducible rfl
                  rotate_left
                  · simp only [Act.put, List.setIfInBounds_toArray, List.set_cons_zero, List.set_cons_succ, i64_w, i32_w]
                    rfl
                  refine pure_ (i := 9) (N := some 135) (v := ?_) (a' := ?_) #[true, true, true, true, true, true, true, true, true, true, false, false, false, false, false, false, false, false, false, false, false, false, false, false, false, false, false] rfl rfl (by kernel_rfl) (fun _ _ _ h => h) (Or.inl ⟨by rfl, ?_⟩) ?_ ?_
                  rotate_left
                  · intro w'
                    go_simp
                    with_reducible rfl
                  rotate_left
                  · simp only [Act.put, List.setIfInBounds_toArray, List.set_cons_zero, List.set_cons_succ, i64_w, i32_w]
                    rfl
                  refine pure_ (i := 10) (N := some 136) (v := ?_) (a' := ?_) #[true, true, true, true, true, true, true, true, true, true, true, false, false, false, false, false, false, false, false, false, false, false, false, false, false, false, false] rfl rfl (by kernel_rfl) (fun _ _ _ h => h) (Or.inl ⟨by rfl, ?_⟩) ?_ ?_
                  rotate_left
                  · intro w'
                    go_simp
                    with_reducible rfl
                  rotate_left
                  · simp only [Act.put, List.setIfInBounds_toArray, List.set_cons_zero, List.set_cons_succ, i64_w, i32_w]
                    rfl
                  refine pure_ (i := 11) (N := some 137) (v := ?_) (a' := ?_) #[true, true, true, true, true, true, true, true, true, true, true, true, false, false, false, false, false, false, false, false, false, false, false, false, false, false, false] rfl rfl (by kernel_rfl) (fun _ _ _ h => h) (Or.inl ⟨by rfl, ?_⟩) ?_ ?_
                  rotate_left
                  · intro w'
                    go_simp
                    with_reducible rfl
                  rotate_left
                  · simp only [Act.put, List.setIfInBounds_toArray, List.set_cons_zero, List.set_cons_succ, i64_w, i32_w]
                    rfl
                  refine pure_ (i := 12) (N := some 138) (v := ?_) (a' := ?_) #[true, true, true, true, true, true, true, true, true, true, true, true, true, false, false, false, false, false, false, false, false, false, false, false, false, false, false] rfl rfl (by kernel_rfl) (fun _ _ _ h => h) (Or.inl ⟨by rfl, ?_⟩) ?_ ?_
                  rotate_left
                  · intro w'
                    go_simp
                    with_reducible rfl
                  rotate_left
                  · simp only [Act.put, List.setIfInBounds_toArray, List.set_cons_zero, List.set_cons_succ, i64_w, i32_w]
                    rfl
                  refine take_ (i := 13) (N := some 139) (v := ?_) (a' := ?_) #[true, true, true, true, true, true, true, true, true, true, true, true, true, true, false, false, false, false, false, false, false, false, false, false, false, false, false] rfl rfl (by kernel_rfl) (fun _ _ _ h => h) (Or.inl ⟨by rfl, ?_⟩) hHeld ?_ ?_
                  rotate_left
                  · intro w' s0
                    go_simp
                    with_reducible rfl
                  rotate_left
                  · simp only [Act.put, List.setIfInBounds_toArray, List.set_cons_zero, List.set_cons_succ, i64_w, i32_w]
                    rfl
                  refine one_ (i := 14) (N := some 140) #[true, true, true, true, true, true, true, true, true, true, true, true, true, true, true, false, false, false, false, false, false, false, false, false, false, false, false] rfl rfl (by kernel_rfl) (by decide) (fun K hK => ?_)
                  refine goes_ Try.func17 (by kernel_rfl) rfl #[.slice Aa V1.length ca, .slice Ar V1.length cr] (by rfl) rfl rfl (by simp only [List.map_toArray, List.map_cons, List.map_nil]; rfl) ?_
                  with_reducible refine (HS2.out).mono ?_
                  rintro e v4 ⟨rfl, hb4⟩
                  refine ⟨_, rfl, ?_⟩
                  have HA10 := Aside0.mk (HA9.out.below hb4)
                  have HB10 := Aside0.mk (HB9.out.trans (hb4.mono HA9.out.size))
                  have HRS := Aside0.mk (rsel_store (has_mid (As := [_, _, _]) HA10.out) (fun v hv => (HV1.out.1 v hv).2) HL8.out.1 (Am := A1) (cm := c1) (m := l1) a2 a3 (fun W' _ hb => Kd.C_below HM.out (HB10.out.trans hb)) HCC.out.2)
                  rw [HRR.out] at HRS
                  have qr4 : v4.cell? ⟨q, 0, none⟩ = some (.slice Ar V1.length cr) := cell_bl (B := 0) hb4 qr3
                  clear hb4
                  refine hK.out _ _ (qr4) (fun hHeld => ?_)
                  clear hK K
                  refine norm_ (a' := ?_) ?_ ?_
                  rotate_left
                  · show Act.put _ (some 140) _ = _
                    simp only [Act.put, List.setIfInBounds_toArray, List.set_cons_zero, List.set_cons_succ, i64_w, i32_w]
                    rfl
                  refine pure_ (i := 15) (N := some 141) (v := ?_) (a' := ?_) #[true, true, true, true, true, true, true, true, true, true, true, true, true, true, true, true, false, false, false, false, false, false, false, false, false, false, false] rfl rfl (by kernel_rfl) (fun _ _ _ h => h) (Or.inl ⟨by rfl, ?_⟩) ?_ ?_
                  rotate_left
                  · intro w'
                    go_simp
                    with_reducible rfl
                  rotate_left
                  · simp only [Act.put, List.setIfInBounds_toArray, List.set_cons_zero, List.set_cons_succ, i64_w, i32_w]
                    rfl
                  refine pure_ (i := 16) (N := some 142) (v := ?_) (a' := ?_) #[true, true, true, true, true, true, true, true, true, true, true, true, true, true, true, true, true, false, false, false, false, false, false, false, false, false, false] rfl rfl (by kernel_rfl) (fun _ _ _ h => h) (Or.inl ⟨by rfl, ?_⟩) ?_ ?_
                  rotate_left
                  · intro w'
                    go_simp
                    with_reducible rfl
                  rotate_left
                  · simp only [Act.put, List.setIfInBounds_toArray, List.set_cons_zero, List.set_cons_succ, i64_w, i32_w]
                    rfl
                  refine pure_ (i := 17) (N := some 143) (v := ?_) (a' := ?_) #[true, true, true, true, true, true, true, true, true, true, true, true, true, true, true, true, true, true, false, false, false, false, false, false, false, false, false] rfl rfl (by kernel_rfl) (fun _ _ _ h => h) (Or.inl ⟨by rfl, ?_⟩) ?_ ?_
                  rotate_left
                  · intro w'
                    go_simp
                    with_reducible rfl
                  rotate_left
                  · simp only [Act.put, List.setIfInBounds_toArray, List.set_cons_zero, List.set_cons_succ, i64_w, i32_w]
                    rfl
                  refine pure_ (i := 18) (N := some 144) (v := ?_) (a' := ?_) #[true, true, true, true, true, true, true, true, true, true, true, true, true, true, true, true, true, true, true, false, false, false, false, false, false, false, false] rfl rfl (by kernel_rfl) (fun _ _ _ h => h) (Or.inl ⟨by rfl, ?_⟩) ?_ ?_
                  rotate_left
                  · intro w'
                    go_simp
                    with_reducible rfl
                  rotate_left
                  · simp only [Act.put, List.setIfInBounds_toArray, List.set_cons_zero, List.set_cons_succ, i64_w, i32_w]
                    rfl
                  refine pure_ (i := 19) (N := some 145) (v := ?_) (a' := ?_) #[true, true, true, true, true, true, true, true, true, true, true, true, true, true, true, true, true, true, true, true, false, false, false, false, false, false, false] rfl rfl (by kernel_rfl) (fun _ _ _ h => h) (Or.inl ⟨by rfl, ?_⟩) ?_ ?_
                  rotate_left
                  · intro w'
                    go_simp
                    with_reducible rfl
                  rotate_left
                  · simp only [Act.put, List.setIfInBounds_toArray, List.set_cons_zero, List.set_cons_succ, i64_w, i32_w]
                    rfl
                  refine pure_ (i := 20) (N := some 146) (v := ?_) (a' := ?_) #[true, true, true, true, true, true, true, true, true, true, true, true, true, true, true, true, true, true, true, true, true, false, false, false, false, false, false] rfl rfl (by kernel_rfl) (fun _ _ _ h => h) (Or.inl ⟨by rfl, ?_⟩) ?_ ?_
                  rotate_left
                  · intro w'
                    go_simp
                    with_reducible rfl
                  rotate_left
                  · simp only [Act.put, List.setIfInBounds_toArray, List.set_cons_zero, List.set_cons_succ, i64_w, i32_w]
                    rfl
                  refine pure_ (i := 21) (N := some 147) (v := ?_) (a' := ?_) #[true, true, true, true, true, true, true, true, true, true, true, true, true, true, true, true, true, true, true, true, true, true, false, false, false, false, false] rfl rfl (by kernel_rfl) (fun _ _ _ h => h) (Or.inl ⟨by rfl, ?_⟩) ?_ ?_
                  rotate_left
                  · intro w'
                    go_simp
                    with_reducible rfl
                  rotate_left
                  · simp only [Act.put, List.setIfInBounds_toArray, List.set_cons_zero, List.set_cons_succ, i64_w, i32_w]
                    rfl
                  refine pure_ (i := 22) (N := some 148) (v := ?_) (a' := ?_) #[true, true, true, true, true, true, true, true, true, true, true, true, true, true, true, true, true, true, true, true, true, true, true, false, false, false, false] rfl rfl (by kernel_rfl) (fun _ _ _ h => h) (Or.inl ⟨by rfl, ?_⟩) ?_ ?_
                  rotate_left
                  · intro w'
                    go_simp
                    with_reducible rfl
                  rotate_left
                  · simp only [Act.put, List.setIfInBounds_toArray, List.set_cons_zero, List.set_cons_succ, i64_w, i32_w]
                    rfl
                  refine last_ (i := 23) (N := some 149) #[true, true, true, true, true, true, true, true, true, true, true, true, true, true, true, true, true, true, true, true, true, true, true, true, false, false, false] rfl rfl (by kernel_rfl) (by decide) (fun K hK => ?_)
                  refine goes_ Try.func18 (by kernel_rfl) rfl #[ptr q, .slice A1 l1.length c1, .int .i64 a2, .int .i64 a3] (by rfl) rfl rfl (by simp only [List.map_toArray, List.map_cons, List.map_nil]; rfl) ?_
                  with_reducible refine (HRS.out).mono ?_
                  rintro e v5 ⟨Az, cz, rfl, hcz, hCz, hA5, hB5⟩
                  refine ⟨_, rfl, ?_⟩
                  have HB11 := Aside0.mk (HB10.out.trans hB5)
                  have HA11 : Aside0 (Has W.heap.size v5 [refT q V1, findsT (.slice Ab R.length cb) R, storeT p V1, findsT (.slice Aa V1.length ca) V1]) := ⟨hA5⟩
                  have HS3 := Aside0.mk (same_c (finds_64 HA11.out.swap).2.2 HCB.out hCz hcz HXB.out HL8.out.2)
                  clear hcz hCz hA5 hB5
                  refine hK.out _ _ ?_
                  clear hK K
                  refine norm_ (a' := ?_) ?_ ?_
                  rotate_left
                  · show Act.put _ (some 149) _ = _
                    simp only [Act.put, List.setIfInBounds_toArray, List.set_cons_zero, List.set_cons_succ, i64_w, i32_w]
                    rfl
                  refine last_ (i := 24) (N := some 150) #[true, true, true, true, true, true, true, true, true, true, true, true, true, true, true, true, true, true, true, true, true, true, true, true, true, false, false] rfl rfl (by kernel_rfl) (by decide) (fun K hK => ?_)
                  refine goes_ Try.func17 (by kernel_rfl) rfl #[.slice Ab R.length cb, .slice Az R.length cz] (by rfl) rfl rfl (by simp only [List.map_toArray, List.map_cons, List.map_nil]; rfl) ?_
                  with_reducible refine (HS3.out).mono ?_
                  rintro e v6 ⟨rfl, hb6⟩
                  refine ⟨_, rfl, ?_⟩
                  have HA12 := Aside0.mk (HA11.out.below hb6)
                  have HB12 := Aside0.mk (HB11.out.trans (hb6.mono HA11.out.size))
                  clear hb6
                  refine hK.out _ _ ?_
                  clear hK K
                  refine norm_ (a' := ?_) ?_ ?_
                  rotate_left
                  · show Act.put _ (some 150) _ = _
                    simp only [Act.put, List.setIfInBounds_toArray, List.set_cons_zero, List.set_cons_succ, i64_w, i32_w]
                    rfl
                  refine pure_ (i := 25) (N := some 151) (v := ?_) (a' := ?_) #[true, true, true, true, true, true, true, true, true, true, true, true, true, true, true, true, true, true, true, true, true, true, true, true, true, true, false] rfl rfl (by kernel_rfl) (fun _ _ _ h => h) (Or.inl ⟨by rfl, ?_⟩) ?_ ?_
                  rotate_left
                  · intro w'
                    go_simp
                    with_reducible rfl
                  rotate_left
                  · simp only [Act.put, List.setIfInBounds_toArray, List.set_cons_zero, List.set_cons_succ, i64_w, i32_w]
                    rfl
                  refine pure_ (i := 26) (N := some 152) (v := ?_) (a' := ?_) #[true, true, true, true, true, true, true, true, true, true, true, true, true, true, true, true, true, true, true, true, true, true, true, true, true, true, true] rfl rfl (by kernel_rfl) (fun _ _ _ h => h) (Or.inl ⟨by rfl, ?_⟩) ?_ ?_
                  rotate_left
                  · intro w'
                    go_simp
                    with_reducible rfl
                  rotate_left
                  · simp only [Act.put, List.setIfInBounds_toArray, List.set_cons_zero, List.set_cons_succ, i64_w, i32_w]
                    rfl
                  refine done_ (by kernel_rfl) ?_

                  have HSP := Aside0.mk (spoil_c (has_mid (As := [_, _, _]) HA12.out) HL8.out.1)
                  clear HA8 HB8' HS1 HS2 HS3 HLE HA9 HB9 HA10 HB10 HRS HA11 HB11 HA12 HXA HXB qr
                  go_wp2_with fail
                  refine HSP.out.mono ?_
                  rintro e v7 ⟨rfl, hA13, hB13⟩
                  have HB13 := Aside0.mk (HB12.out.trans hB13)
                  have HSQ := Aside0.mk (spoil_c hA13.swap HL8.out.2)
                  clear hA13 hB13 HB12 HSP
                  go_wp2_with fail
                  refine HSQ.out.mono ?_
                  rintro e v8 ⟨rfl, hA14, hB14⟩
                  have HB14 := Aside0.mk (HB13.out.trans hB14)
                  have HA14 : Aside0 (Has W.heap.size v8 [refT q V1, storeT p V1]) := ⟨hA14⟩
                  rw [← HVV.out] at HA14
                  clear hA14 hB14 HB13 HSQ
                  go_wp2_with fail
                  go_roundw
                  case rel => exact ⟨k + 1, by first | rfl | rw [ek], hlt1, HA14, HB14⟩
                  case measure => first | (simp [intOf]; omega) | (rw [ek]; simp [intOf]; omega)
          · obtain rfl : k = l0.length := by omega
            have d1 : decide ((l0.length : Int) < (l0.length : Int)) = false := decide_eq_false (by omega)
            clear hlt
            go_wp2_with fail
            refine (awake_calls _).mono ?_
            rintro e w6 ⟨rfl, hb6⟩
            go_wp2_with fail
            go_ret
            exact ⟨rfl, HB.out.trans (hb6.mono HA.out.size)⟩
end Go.Proofs.Ytlhlaadnifkdhaa.Sr
