/- Functions of the program as plain Lean functions, each with the proof that its call comes to just these answers: written by a program of this session (wip/tools/printg.py over the kit's print) for this claim. -/
import Derived.Test.YtlhlaadnifkdhaaQ0
namespace Go.Proofs.Ytlhlaadnifkdhaa.Q
open Go.RowKit Go.Proofs.YtlhlaadnifkdhaaW.PrintWords Go.Proofs.YtlhlaadnifkdhaaW.PrintLast Go.Proofs.YtlhlaadnifkdhaaW.PrintMore
attribute [local go_sem] Opn.str_leq Opn.str_gtr Opn.str_geq max2_int min2_int max_two min_two max_three min_three max_four min_four   -- for this text's walks alone
set_option linter.unusedVariables false
set_option linter.unusedSimpArgs false

-- NOT PRINTED: function 8 (series_New)

-- NOT PRINTED: function 81 (abi_NoEscape)

-- NOT PRINTED: function 75 (strings_Builder_copyCheck)

-- NOT PRINTED: function 60 (strings_Builder_WriteByte)

-- NOT PRINTED: function 61 (strings_Builder_String)

/-! ### labels_Quote: function 44 -/
theorem ret_str {a b : ByteArray} (h : a = b) : Ending.returned (.string a) = .returned (.string b) := by rw [h]
def esc (c : UInt8) : List UInt8 := if c = 34 ∨ c = 92 then [92, c] else [c]
def quoteL (l : List UInt8) : List UInt8 := 34 :: (l.flatMap esc ++ [34])
def escTo (s : ByteArray) (k : Nat) : List UInt8 := 34 :: (s.data.toList.take k).flatMap esc
theorem esc_len (l : List UInt8) : (l.flatMap esc).length ≤ 2 * l.length := by
  induction l with
  | nil => simp
  | cons c l ih =>
    simp only [List.flatMap_cons, List.length_append, List.length_cons]
    have : (esc c).length ≤ 2 := by unfold esc; split <;> simp
    omega
theorem escTo_len (s : ByteArray) (k : Nat) : (escTo s k).length ≤ 1 + 2 * s.size := by
  unfold escTo
  have h := esc_len (s.data.toList.take k)
  have h2 : (s.data.toList.take k).length ≤ s.size := by rw [List.length_take, data_length]; omega
  simp only [List.length_cons]
  omega
theorem escTo_succ (s : ByteArray) (k : Nat) (h : k < s.size) : escTo s (k + 1) = escTo s k ++ esc (s[k]'h) := by
  unfold escTo
  rw [List.take_succ_eq_append_getElem (by rw [data_length]; exact h), List.flatMap_append]
  simp only [List.flatMap_cons, List.flatMap_nil, List.append_nil, List.cons_append]
  rfl
theorem escTo_all (s : ByteArray) : escTo s s.size ++ [34] = quoteL s.data.toList := by
  unfold escTo quoteL
  rw [List.take_of_length_le (by rw [data_length]; omega)]
  rfl
theorem cells_snoc (l : List UInt8) (c : UInt8) : Lib.byteCells l ++ [.int .u8 (c.toNat : Int)] = Lib.byteCells (l ++ [c]) := by
  unfold Lib.byteCells
  rw [List.map_append]
  rfl
theorem cells_len (l : List UInt8) : (Lib.byteCells l).length = l.length := by unfold Lib.byteCells; rw [List.length_map]
theorem esc_one (c : UInt8) (h34 : ((c.toNat : Int) == 34) = false) (h92 : ((c.toNat : Int) == 92) = false) : esc c = [c] := by
  have h1 : c ≠ 34 := fun e => by rw [e] at h34; simp at h34
  have h2 : c ≠ 92 := fun e => by rw [e] at h92; simp at h92
  unfold esc
  rw [if_neg (by simp [h1, h2])]
theorem esc_two (c : UInt8) (h : ((c.toNat : Int) == 34) = true ∨ ((c.toNat : Int) == 92) = true) : esc c = [92, c] := by
  unfold esc
  rw [if_pos]
  rcases h with h | h
  · left
    have := beq_iff_eq.1 h
    exact UInt8.toNat_inj.1 (by first | (have : (34 : UInt8).toNat = 34 := rfl; omega) | (have : (92 : UInt8).toNat = 92 := rfl; omega))
  · right
    have := beq_iff_eq.1 h
    exact UInt8.toNat_inj.1 (by first | (have : (34 : UInt8).toNat = 34 := rfl; omega) | (have : (92 : UInt8).toNat = 92 := rfl; omega))
def labels_Quote.f (a0 : ByteArray) : Option ByteArray := if a0.size ≤ 70368744177000 then some ⟨(quoteL a0.data.toList).toArray⟩ else none
set_option maxHeartbeats 2000000 in
set_option maxRecDepth 100000 in
theorem labels_Quote.calls (a0 : ByteArray) (r : ByteArray) (w : World) (h : labels_Quote.f a0 = some r) :
    Calls Try.prog 44 #[.string a0] w fun e w' => e = .returned (.string r) ∧ Below w.heap.size w w' := by
  unfold labels_Quote.f at h
  by_cases hz : a0.size ≤ 70368744177000
  case neg => rw [if_neg hz] at h; cases h
  rw [if_pos hz] at h
  have HR := Aside0.mk (Option.some.inj h)
  clear h
  go_enter Try.func44, Try.ntmps44
  go_wp2_with fail
  have hB0 : Lib.IsBuilder 112 5 w.heap.size w.heap.size (Lib.byteCells []) (w.alloc (.cells #[.pointer none, .slice none 0 0] 112)) :=
    .inl ⟨Nat.le_refl _, .slice none 0 0, heap_alloc_new w _, World.ownsRow_nil _ _ _ _, by simp [Value.ownBlock]⟩
  refine (Bld.writeByte w.heap.size w.heap.size _ 34 _ hB0 (by simp [Lib.byteCells]) (by simp)).mono ?_
  rintro e w1 ⟨rfl, hb1, hbl1⟩
  have HB1 := Aside0.mk hb1
  have HL1 := Aside0.mk (((Below.refl w.heap.size w).alloc (Nat.le_refl _) _).trans hbl1)
  clear hb1 hbl1 hB0
  go_wp2_with fail
  go_loopw [8] (fun i wr => ∃ k : Nat, k ≤ a0.size ∧ i = .int .i64 k ∧ Aside0 (Lib.IsBuilder 112 5 w.heap.size w.heap.size (Lib.byteCells (escTo a0 k)) wr) ∧ Aside0 (Below w.heap.size w wr)) (fun i _ => a0.size - (intOf i).toNat)
  case atStart => exact ⟨0, Nat.zero_le _, rfl, ⟨.inr HB1.out⟩, HL1⟩
  case round =>
    obtain ⟨k, hk, rfl, HB, HL⟩ := hrel
    clear HB1 HL1
    have hlen := escTo_len a0 k
    by_cases hlt : k < a0.size
    · have hbt : ∀ h : k < a0.size, ((a0[k]'h).toNat : Int) = bt a0 (k : Int) := bt_at a0 (k : Int)
      have hcb : bt a0 (k : Int) = ((a0[k]'hlt).toNat : Int) := (hbt hlt).symm
      have HC := Aside0.mk hcb
      clear hcb
      have hs1 := Aside0.mk (escTo_succ a0 k hlt)
      cases h34 : (bt a0 (k : Int) == 34) with
      | true =>
        have H34 := Aside0.mk h34
        go_wp2_with fail
        refine (Bld.writeByte w.heap.size w.heap.size _ 92 _ HB.out (by rw [cells_len]; omega) (below_size HL.out)).mono ?_
        rintro e w2 ⟨rfl, hb2, hl2⟩
        have HB2 := Aside0.mk hb2
        have HL2 := Aside0.mk (HL.out.trans hl2)
        clear hb2 hl2
        go_wp2_with fail
        refine (Bld.writeByte w.heap.size w.heap.size _ _ _ (.inr HB2.out) (by rw [List.length_append, cells_len, List.length_singleton]; omega) (below_size HL2.out)).mono ?_
        rintro e w3 ⟨rfl, hb3, hl3⟩
        have HB3 := Aside0.mk hb3
        have HL3 := Aside0.mk (HL2.out.trans hl3)
        clear hb3 hl3 HB2 HL2
        go_wp2
        go_roundw
        case rel => exact ⟨k + 1, by omega, by go_num, ⟨.inr (by
          have h3 := HB3.out
          rw [HC.out, show Value.int .u8 92 = .int .u8 (((92 : UInt8).toNat : Nat) : Int) from rfl, cells_snoc, cells_snoc] at h3
          rw [hs1.out, esc_two _ (.inl (by rw [← HC.out]; exact H34.out))]
          simpa using h3)⟩, HL3⟩
        case measure => simp [intOf]; omega
      | false =>
        have H34 := Aside0.mk h34
        cases h92 : (bt a0 (k : Int) == 92) with
        | true =>
          have H92 := Aside0.mk h92
          go_wp2_with fail
          refine (Bld.writeByte w.heap.size w.heap.size _ 92 _ HB.out (by rw [cells_len]; omega) (below_size HL.out)).mono ?_
          rintro e w2 ⟨rfl, hb2, hl2⟩
          have HB2 := Aside0.mk hb2
          have HL2 := Aside0.mk (HL.out.trans hl2)
          clear hb2 hl2
          go_wp2_with fail
          refine (Bld.writeByte w.heap.size w.heap.size _ _ _ (.inr HB2.out) (by rw [List.length_append, cells_len, List.length_singleton]; omega) (below_size HL2.out)).mono ?_
          rintro e w3 ⟨rfl, hb3, hl3⟩
          have HB3 := Aside0.mk hb3
          have HL3 := Aside0.mk (HL2.out.trans hl3)
          clear hb3 hl3 HB2 HL2
          go_wp2
          go_roundw
          case rel => exact ⟨k + 1, by omega, by go_num, ⟨.inr (by
            have h3 := HB3.out
            rw [HC.out, show Value.int .u8 92 = .int .u8 (((92 : UInt8).toNat : Nat) : Int) from rfl, cells_snoc, cells_snoc] at h3
            rw [hs1.out, esc_two _ (.inr (by rw [← HC.out]; exact H92.out))]
            simpa using h3)⟩, HL3⟩
          case measure => simp [intOf]; omega
        | false =>
          have H92 := Aside0.mk h92
          go_wp2_with fail
          refine (Bld.writeByte w.heap.size w.heap.size _ _ _ HB.out (by rw [cells_len]; omega) (below_size HL.out)).mono ?_
          rintro e w3 ⟨rfl, hb3, hl3⟩
          have HB3 := Aside0.mk hb3
          have HL3 := Aside0.mk (HL.out.trans hl3)
          clear hb3 hl3
          go_wp2
          go_roundw
          case rel => exact ⟨k + 1, by omega, by go_num, ⟨.inr (by
            have h3 := HB3.out
            rw [HC.out, cells_snoc] at h3
            rw [hs1.out, esc_one _ (by rw [← HC.out]; exact H34.out) (by rw [← HC.out]; exact H92.out)]
            exact h3)⟩, HL3⟩
          case measure => simp [intOf]; omega
    · obtain rfl : k = a0.size := by omega
      go_wp2_with fail
      refine (Bld.writeByte w.heap.size w.heap.size _ 34 _ HB.out (by rw [cells_len]; omega) (below_size HL.out)).mono ?_
      rintro e w2 ⟨rfl, hb2, hl2⟩
      have HB2 := Aside0.mk hb2
      have HL2 := Aside0.mk (HL.out.trans hl2)
      clear hb2 hl2
      go_wp2_with fail
      refine (Bld.string w.heap.size w.heap.size (quoteL a0.data.toList) _ (.inr (by
        have h2 := HB2.out
        rw [show Value.int .u8 34 = .int .u8 (((34 : UInt8).toNat : Nat) : Int) from rfl, cells_snoc, escTo_all] at h2
        exact h2)) (below_size HL2.out)).mono ?_
      rintro e w4 ⟨rfl, hl4⟩
      have HL4 := Aside0.mk (HL2.out.trans hl4)
      clear hl4
      go_wp2
      go_ret
      exact ⟨ret_str HR.out, HL4.out⟩

-- NOT PRINTED: function 82 (bytealg_MakeNoZero)

-- NOT PRINTED: function 76 (strings_Builder_grow)

-- NOT PRINTED: function 62 (strings_Builder_Grow)

-- NOT PRINTED: function 63 (strings_Builder_WriteString)

/-! ### strings_Join: function 45 -/
def joinL (l : List ByteArray) (sep : ByteArray) : List UInt8 := Lib.join (l.map (·.data.toList)) sep.data.toList
def strings_Join.f (l0 : List ByteArray) (a1 : ByteArray) : Option ByteArray := if l0.length ≤ 140737488355328 ∧ (joinL l0 a1).length ≤ 140737488355328 then some ⟨(joinL l0 a1).toArray⟩ else none
theorem strings_Join.calls (A0 : Option Addr) (c0 : Nat) (l0 : List ByteArray) (a1 : ByteArray) (r : ByteArray) (w : World) (hr0 : Kd.C Kd.string w A0 l0.length l0) (hc0 : l0.length ≤ c0) (h : strings_Join.f l0 a1 = some r) :
    Calls Try.prog 45 #[.slice A0 l0.length c0, .string a1] w fun e w' => e = .returned (.string r) ∧ Below w.heap.size w w' := by
  unfold strings_Join.f at h
  by_cases hz : l0.length ≤ 140737488355328 ∧ (joinL l0 a1).length ≤ 140737488355328
  case neg => rw [if_neg hz] at h; cases h
  rw [if_pos hz] at h
  obtain rfl := Option.some.inj h
  rcases Nat.eq_zero_or_pos l0.length with h0 | h0
  · obtain rfl : l0 = [] := List.length_eq_zero_iff.1 h0
    refine (Bld.join_none A0 c0 a1 w).mono ?_
    rintro e w' ⟨rfl, rfl⟩
    exact ⟨rfl, Below.refl _ _⟩
  · have hcell : ∀ (j : Nat) x, l0[j]? = some x → ∃ ad, A0 = some ad ∧ w.cell? (ad.add j) = some (.string x) := by
      intro j x hj
      have hl := (List.getElem?_eq_some_iff.1 hj).1
      obtain ⟨ad, e, hc⟩ := Kd.at_string hr0 (j : Int) (by omega) (by omega)
      refine ⟨ad, e, ?_⟩
      rw [Int.toNat_natCast] at hc
      rw [hc]
      simp [rdOf, List.getD, hj]
    obtain ⟨x0, hx0⟩ : ∃ x, l0[0]? = some x := ⟨_, List.getElem?_eq_getElem h0⟩
    obtain ⟨ad, rfl, hc0'⟩ := hcell 0 x0 hx0
    have hsp : ad.spot = none := by
      have h1 : w.cell? ad = some (.string x0) := by simpa [Addr.add] using hc0'
      unfold World.cell? at h1
      cases hs : ad.spot with
      | none => rfl
      | some q =>
        rw [hs] at h1
        split at h1 <;> simp at h1
    obtain ⟨bk, o, sp⟩ := ad
    simp only at hsp
    subst hsp
    have hlt : bk < w.heap.size := by
      have h1 : w.cell? ⟨bk, o, none⟩ = some (.string x0) := by simpa [Addr.add] using hc0'
      exact World.block_lt_of_cell? w _ h1
    refine (Bld.join bk o c0 l0 a1 w (fun j x hj => ?_) hlt hz.1 hc0 hz.2).mono ?_
    · obtain ⟨ad, e, hc⟩ := hcell j x hj
      obtain rfl := Option.some.inj e
      unfold Addr.add at hc
      split at hc
      · rename_i hj0
        subst hj0
        simpa using hc
      · exact hc
    · rintro e w' ⟨rfl, hb⟩
      exact ⟨rfl, hb⟩

end Go.Proofs.Ytlhlaadnifkdhaa.Q
