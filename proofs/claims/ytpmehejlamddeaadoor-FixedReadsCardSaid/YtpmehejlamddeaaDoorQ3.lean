/- Functions of the program as plain Lean functions, each with the proof that its call comes to just these answers: written by a program of this session (wip/tools/printg.py over the kit's print) for this claim. -/
import Derived.Test.YtpmehejlamddeaaDoorQ0
import Derived.Test.YtpmehejlamddeaaDoorQ1
import Derived.Test.YtpmehejlamddeaaDoorQ2
namespace Go.Proofs.YtpmehejlamddeaaDoor.Q
open Go.RowKit Go.Proofs.YtpmehejlamddeaaDoorW.PrintWords Go.Proofs.YtpmehejlamddeaaDoorW.PrintLast Go.Proofs.YtpmehejlamddeaaDoorW.PrintMore
attribute [local go_sem] Opn.str_leq Opn.str_gtr Opn.str_geq max2_int min2_int max_two min_two max_three min_three max_four min_four   -- for this text's walks alone
set_option linter.unusedVariables false
set_option linter.unusedSimpArgs false

/-! ### strings_Repeat: function 24 -/
def strings_Repeat.f (a0 : ByteArray) (a1 : Int) : Option ByteArray := if 0 ≤ a1 ∧ a1 ≤ 1000000 ∧ a0.size ≤ 1000000 then some ⟨(Lib.repeatL a0.data.toList a1.toNat).toArray⟩ else none
theorem strings_Repeat.calls (a0 : ByteArray) (a1 : Int) (r : ByteArray) (w : World) (h : strings_Repeat.f a0 a1 = some r) :
    Calls Tryd.prog 24 #[.string a0, .int .i64 a1] w fun e w' => e = .returned (.string r) ∧ Below w.heap.size w w' := by
  unfold strings_Repeat.f at h
  by_cases hz : 0 ≤ a1 ∧ a1 ≤ 1000000 ∧ a0.size ≤ 1000000
  case neg => rw [if_neg hz] at h; cases h
  rw [if_pos hz] at h
  obtain rfl := Option.some.inj h
  obtain ⟨h0, h1, h2⟩ := hz
  obtain ⟨c, rfl⟩ : ∃ c : Nat, a1 = (c : Int) := ⟨a1.toNat, by omega⟩
  rw [Int.toNat_natCast]
  exact repeat_calls a0 c w (by omega) (Nat.le_trans (Nat.mul_le_mul h2 (show c ≤ 1000000 by omega)) (by decide))

/-! ### fixed_Parse: function 11 -/
/-- The digits behind one another, at most the greatest number. -/
def dg (d : UInt8) : Int := ((d.toNat : Int) - 48) % 256
def digL (x : Int) : List UInt8 → Int
  | [] => x
  | d :: l => if x > (4611686018427387903 - dg d) / 10 then 4611686018427387903 else digL (wrap64 (wrap64 (10 * x) + dg d)) l
def fixed_Parse.f (k : Nat) (a0 : ByteArray) : Option (Int × Int) :=
  (strings_CutPrefix.f a0 ⟨#[45]⟩).bind fun c => (fixed_cut.f k c.1).bind fun p =>
    if p.2.2 = true then
      if p.1.size + p.2.1.size ≤ 1000000 then (strings_Repeat.f ⟨#[48]⟩ (3 - (p.2.1.size : Int))).bind fun z =>
        if z.size ≤ 1000000 then some (if c.2 = true then wrap64 (-(digL 0 ((p.1 ++ p.2.1) ++ z).data.toList)) else digL 0 ((p.1 ++ p.2.1) ++ z).data.toList, 0) else none
      else none
    else some (0, 10)
theorem fixed_Parse.mono : ∀ a0 k, LeO (fixed_Parse.f k a0) (fixed_Parse.f (k + 1) a0) := by
  intro a0 k
  unfold fixed_Parse.f
  exact LeO.bind (LeO.refl _) fun c => LeO.bind (fixed_cut.mono _ _) fun p => LeO.refl _
theorem dig_take (l : List UInt8) (x : Int) (k : Nat) (h : k < l.length) : digL x (l.drop k) = if x > (4611686018427387903 - dg l[k]) / 10 then 4611686018427387903 else digL (wrap64 (wrap64 (10 * x) + dg l[k])) (l.drop (k + 1)) := by
  rw [List.drop_eq_getElem_cons h, digL]
set_option maxHeartbeats 2000000 in
set_option maxRecDepth 100000 in
theorem fixed_Parse.calls (k : Nat) (a0 : ByteArray) (r1 : Int) (r2 : Int) (w : World) (h : fixed_Parse.f k a0 = some (r1, r2)) :
    Calls Tryd.prog 11 #[.string a0] w fun e w' => e = .returned (.tuple #[.int .i64 r1, .int .i64 r2]) ∧ Below w.heap.size w w' := by
  unfold fixed_Parse.f at h
  cases hc : strings_CutPrefix.f a0 ⟨#[45]⟩ with
  | none => rw [hc] at h; cases h
  | some c =>
    obtain ⟨rest, less⟩ := c
    rw [hc, Option.bind_some] at h
    cases hp : fixed_cut.f k rest with
    | none => rw [hp] at h; cases h
    | some p =>
      obtain ⟨whole, part, ok⟩ := p
      rw [hp, Option.bind_some] at h
      have HC := Aside0.mk hc
      have HP := Aside0.mk hp
      have H := Aside0.mk h
      clear hc hp h
      go_enter Tryd.func11, Tryd.ntmps11
      go_wp2_with fail
      refine (strings_CutPrefix.calls a0 _ rest less _ HC.out).mono ?_
      rintro e w1 ⟨rfl, hd1⟩
      have HB1 := Aside0.mk hd1.below
      clear hd1
      go_wp2_with fail
      refine (fixed_cut.calls k rest whole part ok _ HP.out).mono ?_
      rintro e w2 ⟨rfl, hd2⟩
      have HB2 := Aside0.mk (below_step HB1.out hd2.below)
      clear hd2 HB1
      cases ok with
      | false =>
        have h := H.out
        rw [if_neg (by simp)] at h
        obtain ⟨rfl, rfl⟩ : (0 : Int) = r1 ∧ (10 : Int) = r2 := by simpa using h
        clear h H
        go_wp2
        try rw [Exit.noGoto_ret]
        go_ret2
        exact ⟨rfl, HB2.out⟩
      | true =>
        have h := H.out
        rw [if_pos rfl] at h
        by_cases hs1 : whole.size + part.size ≤ 1000000
        case neg => rw [if_neg hs1] at h; cases h
        rw [if_pos hs1] at h
        cases hz : strings_Repeat.f ⟨#[48]⟩ (3 - (part.size : Int)) with
        | none => rw [hz] at h; cases h
        | some z =>
          rw [hz, Option.bind_some] at h
          have HZ := Aside0.mk hz
          clear hz H
          by_cases hs2 : z.size ≤ 1000000
          case neg => rw [if_neg hs2] at h; cases h
          rw [if_pos hs2] at h
          have H := Aside0.mk h
          clear h
          go_wp2_with fail
          refine (strings_Repeat.calls ⟨#[48]⟩ (3 - (part.size : Int)) z _ HZ.out).mono ?_
          rintro e w3 ⟨rfl, hb3⟩
          have HB3 := Aside0.mk (below_step HB2.out hb3)
          clear hb3 HB2
          have hf1 : (9223372036854775807 < whole.size + part.size) = False := eq_false (by omega)
          have hf2 : (9223372036854775807 < whole.size + part.size + z.size) = False := eq_false (by omega)
          have hsz : (whole ++ part).size = whole.size + part.size := ByteArray.size_append
          go_wp2_with fail
          rw [Lib.run_convert_string_bytes w3 9 44 5 _ Tryd.underlying9 Tryd.underlying44 Tryd.underlying5]
          have HB4 := Aside0.mk (below_step HB3.out (Lib.bytesWorld_below w3 5 ((whole ++ part) ++ z)))
          have HCL := Aside0.mk (fun j hj => Lib.bytesWorld_cell w3 5 ((whole ++ part) ++ z) j hj)
          clear HB3
          have hss : ((whole ++ part) ++ z).size ≤ 2000000 := by rw [ByteArray.size_append, ByteArray.size_append]; omega
          generalize hs : (whole ++ part) ++ z = s at *
          generalize Lib.bytesWorld w3 5 s = w4 at *
          generalize grownCap w3 s.size 0 5 = cap
          simp only [Result.andThen]
          go_wp2
          go_loopw [9, 35] (fun x i wr => ∃ (j : Nat) (xv : Int), j ≤ s.size ∧ i = .int .i64 j ∧ x = .int .i64 xv ∧ Aside0 (digL xv (s.data.toList.drop j) = digL 0 s.data.toList) ∧ wr = w4) (fun _ i _ => s.size - (intOf i).toNat)
          case atStart => exact ⟨0, 0, Nat.zero_le _, rfl, rfl, ⟨rfl⟩, rfl⟩
          case round =>
            obtain ⟨j, xv, hj, rfl, rfl, HD, rfl⟩ := hrel
            by_cases hlt : j < s.size
            · have hcell := HCL.out j hlt
              generalize hd : s.data.toList.getD j 0 = d at hcell
              have hl : j < s.data.toList.length := by rw [data_length]; exact hlt
              have hdj : s.data.toList[j] = d := by rw [← hd, List.getD_eq_getElem?_getD, List.getElem?_eq_getElem hl]; rfl
              have HS := Aside0.mk (dig_take s.data.toList xv j hl)
              rw [hdj] at HS
              clear hd hdj hl HCL
              by_cases hgt : xv > (4611686018427387903 - dg d) / 10
              · have HX := Aside0.mk (HD.out.symm.trans (HS.out.trans (if_pos hgt)))
                clear HS HD
                unfold dg at hgt
                cases less with
                | false =>
                  obtain ⟨h1, h2⟩ : digL 0 s.data.toList = r1 ∧ (0 : Int) = r2 := by simpa using H.out
                  rw [HX.out] at h1
                  subst h1 h2
                  go_wp2
                  try rw [Exit.noGoto_ret]
                  go_ret2
                  exact ⟨rfl, HB4.out⟩
                | true =>
                  obtain ⟨h1, h2⟩ : wrap64 (-(digL 0 s.data.toList)) = r1 ∧ (0 : Int) = r2 := by simpa using H.out
                  rw [HX.out] at h1
                  subst h1 h2
                  go_wp2
                  try rw [Exit.noGoto_ret]
                  go_ret2
                  exact ⟨by first | rfl | (simp; done) | (simp [wrap64]; done), HB4.out⟩
              · have HX := Aside0.mk (HS.out.symm.trans HD.out)
                clear HS HD
                have HN := Aside0.mk hgt
                unfold dg at hgt
                go_wp2
                go_roundw
                case rel => exact ⟨j + 1, _, by omega, by rw [Int.natCast_succ], rfl, ⟨by have h := HX.out; rw [if_neg HN.out] at h; exact h⟩, trivial⟩
                case measure => simp only [intOf]; omega
            · have hE : digL 0 s.data.toList = xv := by
                rw [← HD.out, List.drop_eq_nil_of_le (by rw [data_length]; omega)]
                rfl
              have hjs : j = s.size := by omega
              subst hjs
              have HX := Aside0.mk hE
              clear hE HD HCL
              cases less with
              | false =>
                obtain ⟨h1, h2⟩ : digL 0 s.data.toList = r1 ∧ (0 : Int) = r2 := by simpa using H.out
                rw [HX.out] at h1
                subst h1 h2
                go_wp2
                try rw [Exit.noGoto_ret]
                go_ret2
                exact ⟨rfl, HB4.out⟩
              | true =>
                obtain ⟨h1, h2⟩ : wrap64 (-(digL 0 s.data.toList)) = r1 ∧ (0 : Int) = r2 := by simpa using H.out
                rw [HX.out] at h1
                subst h1 h2
                go_wp2
                try rw [Exit.noGoto_ret]
                go_ret2
                exact ⟨rfl, HB4.out⟩

/-! ### fixed_Sat: function 16 -/
def fixed_Sat.f (a0 : Int) : Option (Int) := some (mn (mx a0 (-4611686018427387903)) 4611686018427387903)
set_option maxHeartbeats 8000000 in
set_option maxRecDepth 100000 in
theorem fixed_Sat.calls (a0 : Int) (r : Int) (w : World) (h : fixed_Sat.f a0 = some r) :
    Calls Tryd.prog 16 #[.int .i64 a0] w fun e w' => e = .returned (.int .i64 r) ∧ Below w.heap.size w w' := by
  have HB := Aside0.mk (Below.refl w.heap.size w)
  have H : (some (mn (mx a0 (-4611686018427387903)) 4611686018427387903)) = some r := h
  clear h
  obtain ⟨ji2, hji2⟩ : ∃ j_ : Int, (mx a0 (-4611686018427387903)) = j_ := ⟨_, rfl⟩
  replace H : (some (mn (ji2) 4611686018427387903)) = some r := by first | (rw [hji2] at H; exact H) | (simp only [hji2] at H ⊢; exact H)
  have hji2_ : (if a0 < (-4611686018427387903) then (-4611686018427387903) else a0) = ji2 := hji2
  obtain ⟨ji3, hji3⟩ : ∃ j_ : Int, (mn (ji2) 4611686018427387903) = j_ := ⟨_, rfl⟩
  replace H : (some ji3) = some r := by first | (rw [hji3] at H; exact H) | (simp only [hji3] at H ⊢; exact H)
  have hji3_ : (if 4611686018427387903 < (ji2) then 4611686018427387903 else (ji2)) = ji3 := hji3
  obtain rfl := Option.some.inj H
  go_enter Tryd.func16, Tryd.ntmps16
  go_wp2
  go_ret
  exact ⟨by first | rfl | (simp [errW_none, errW_some] <;> rfl) | (simp only [Opn.bne_nil, Opn.beq_nil]; done) | (simp [Opn.bne_nil, Opn.beq_nil]; done) | (simp only [← hji2, ← hji3]; first | rfl | (simp [errW_none, errW_some] <;> rfl)) | (simp [*, errW_none, errW_some] <;> rfl), by repeat (first | (with_reducible first | exact HB.out | apply below_alloc | apply pw_below_drewN | apply below_drew1) | exact HB.out)⟩

/-! ### strconv_FormatInt: function 27 -/
/-- A number's digits, by so many rounds (structural, so that the kernel reckons it). -/
def decS : Nat → Nat → List UInt8
  | 0, _ => []
  | f + 1, u => if u < 10 then [UInt8.ofNat (48 + u)] else decS f (u / 10) ++ [UInt8.ofNat (48 + u % 10)]
theorem decS_eq : ∀ (f u : Nat), u < 10 ^ f → 0 < f → decS f u = Lib.decDigits u
  | 0, _, _, h => absurd h (by omega)
  | f + 1, u, h, _ => by
    rw [decS, Lib.decDigits]
    by_cases hu : u < 10
    · rw [if_pos hu, dif_pos hu]
    · rw [if_neg hu, dif_neg hu]
      have h2 : u / 10 < 10 ^ f := by rw [Nat.pow_succ] at h; omega
      rw [decS_eq f (u / 10) h2 (by cases f with | zero => simp at h2; omega | succ f => omega)]
def itoaS (n : Int) : List UInt8 := if n < 0 then 45 :: decS 20 n.natAbs else decS 20 n.toNat
theorem itoaS_eq (n : Int) (h0 : -9223372036854775808 ≤ n) (h1 : n ≤ 9223372036854775807) : Lib.itoa n = itoaS n := by
  unfold Lib.itoa itoaS
  split
  · rw [decS_eq 20 _ (show n.natAbs < 10 ^ 20 by omega) (by decide)]
  · rw [decS_eq 20 _ (show n.toNat < 10 ^ 20 by omega) (by decide)]
def strconv_FormatInt.f (a0 a1 : Int) : Option ByteArray := if -9223372036854775808 ≤ a0 ∧ a0 ≤ 9223372036854775807 ∧ a1 = 10 then some ⟨(itoaS a0).toArray⟩ else none
theorem strconv_FormatInt.calls (a0 a1 : Int) (r : ByteArray) (w : World) (h : strconv_FormatInt.f a0 a1 = some r) (hTab : Tb w) :
    Calls Tryd.prog 27 #[.int .i64 a0, .int .i64 a1] w fun e w' => e = .returned (.string r) ∧ Below w.heap.size w w' := by
  unfold strconv_FormatInt.f at h
  by_cases hz : -9223372036854775808 ≤ a0 ∧ a0 ≤ 9223372036854775807 ∧ a1 = 10
  case neg => rw [if_neg hz] at h; cases h
  rw [if_pos hz] at h
  obtain rfl := Option.some.inj h
  obtain ⟨h0, h1, rfl⟩ := hz
  rw [← itoaS_eq a0 h0 h1]
  exact format_calls a0 h0 h1 w hTab

/-! ### strings_TrimRight: function 28 -/
def strings_TrimRight.f (a0 a1 : ByteArray) : Option ByteArray := if a0.size ≤ 9223372036854775807 ∧ a1 = ⟨#[48]⟩ then some ⟨(Lib.trimRightB a0.data.toList 48).toArray⟩ else none
theorem strings_TrimRight.calls (a0 a1 : ByteArray) (r : ByteArray) (w : World) (h : strings_TrimRight.f a0 a1 = some r) :
    Calls Tryd.prog 28 #[.string a0, .string a1] w fun e w' => e = .returned (.string r) ∧ Below w.heap.size w w' := by
  unfold strings_TrimRight.f at h
  by_cases hz : a0.size ≤ 9223372036854775807 ∧ a1 = ⟨#[48]⟩
  case neg => rw [if_neg hz] at h; cases h
  rw [if_pos hz] at h
  obtain rfl := Option.some.inj h
  obtain ⟨h0, rfl⟩ := hz
  refine (trim_calls a0 48 (by decide) w h0).mono ?_
  rintro e w' ⟨rfl, rfl⟩
  exact ⟨rfl, Below.refl _ _⟩

end Go.Proofs.YtpmehejlamddeaaDoor.Q
