/- A turn in all its cases; the chapter's examples: walked. -/
import Derived.Test.YtpnoghnhlddjeaaWorkN
namespace Go.Proofs.Ytpnoghnhlddjeaa.Wk
open Go.RowKit Go.Proofs.YtpnoghnhlddjeaaW.PrintWords Go.Proofs.YtpnoghnhlddjeaaW.PrintLast Go.Proofs.YtpnoghnhlddjeaaW.PrintMore Go.Proofs.Ytpnoghnhlddjeaa.Q Go.Proofs.Ytpnoghnhlddjeaa.Own Go.Proofs.Ytpnoghnhlddjeaa.Hp
set_option linter.unusedVariables false
set_option linter.unusedSimpArgs false
attribute [local go_sem ↓] Go.wp_at_zero Go.wp_at_succ

/-- What a turn tells, and leaves. -/
structure TurnR where
  x : S31
  stolen : Bool
  ok : Bool
  hs : List (List S31)
def turnR (hs : List (List S31)) (i a : Int) : TurnR :=
  if i < 0 ∨ (hs.length : Int) ≤ i then ⟨z31, false, false, hs⟩
  else if turnOwn hs i.toNat a = true then ⟨takeX (hs.getD i.toNat []) a, false, true, hs.set i.toNat (takeS (hs.getD i.toNat []) a)⟩
  else if turnOther hs i.toNat a = true then ⟨takeX (hs.getD (mostF hs hs.length) []) a, true, true, hs.set (mostF hs hs.length) (takeS (hs.getD (mostF hs hs.length) []) a)⟩
  else ⟨z31, false, false, hs⟩
def countR (hs : List (List S31)) (i : Int) : Int := if i < 0 ∨ (hs.length : Int) ≤ i then 0 else ((hs.getD i.toNat []).length : Int)
theorem turnR_length (hs : List (List S31)) (i a : Int) : (turnR hs i a).hs.length = hs.length := by
  unfold turnR
  repeat' split
  all_goals simp
theorem putS_length (hs : List (List S31)) (x : S31) : (putS hs x).length = hs.length := by
  unfold putS
  split <;> simp
theorem turn_calls {B : Nat} {w : World} {p : Nat} {v : Value} {ps : List Nat} {hs : List (List S31)} {Ts : List Th} (h : Has B w (workL p v ps hs ++ Ts)) (hl : ps.length = hs.length) (i a : Int) :
    Calls Try.prog 12 #[ptr p, .int .i64 i, .int .i64 a] w (TurnPost B w p v ps (turnR hs i a).hs Ts (turnV (turnR hs i a).x (turnR hs i a).stolen (turnR hs i a).ok)) := by
  unfold turnR
  by_cases h0 : i < 0 ∨ (hs.length : Int) ≤ i
  · rw [if_pos h0]
    exact turn_out h i (by rw [hl]; exact h0) a
  · rw [if_neg h0]
    have hi : i.toNat < ps.length := by omega
    have e : i = ((i.toNat : Nat) : Int) := by omega
    generalize i.toNat = j at hi e ⊢
    subst e
    cases h1 : turnOwn hs j a
    · rw [if_neg (by decide)]
      cases h2 : turnOther hs j a
      · rw [if_neg (by decide)]
        exact turn_none h hl j hi a h1 h2
      · rw [if_pos rfl]
        exact turn_other h hl j hi a h1 h2
    · rw [if_pos rfl]
      exact turn_own h hl j hi a h1
theorem count_calls {B : Nat} {w : World} {p : Nat} {v : Value} {ps : List Nat} {hs : List (List S31)} {Ts : List Th} (h : Has B w (workL p v ps hs ++ Ts)) (hl : ps.length = hs.length) (i : Int) :
    Calls Try.prog 10 #[ptr p, .int .i64 i] w fun e w' => e = .returned (.int .i64 (countR hs i)) ∧ w = w' := by
  unfold countR
  by_cases h0 : i < 0 ∨ (hs.length : Int) ≤ i
  · rw [if_pos h0]
    exact count_out h i (by rw [hl]; exact h0)
  · rw [if_neg h0]
    have hi : i.toNat < ps.length := by omega
    have e : i = ((i.toNat : Nat) : Int) := by omega
    generalize i.toNat = j at hi e ⊢
    subst e
    exact count_in h hl j hi
def TrueW (w : World) (e : Ending) (w' : World) : Prop := e = .returned (.bool true) ∧ Below w.heap.size w w'
set_option maxHeartbeats 8000000 in
set_option maxRecDepth 100000 in
theorem awake_calls (w : World) : Calls Try.prog 14 #[] w (TrueW w) := by
  have hu := Try.underlying31
  have HN := Aside0.mk (new_good 2 (by decide) (by decide) (Has.nil w))
  rw [show ((2 : Nat) : Int) = 2 from rfl, show List.replicate 2 ([] : List S31) = [[], []] from rfl] at HN
  go_enter Try.func14, Try.ntmps14
  go_wp2_with fail
  refine HN.out.mono ?_
  rintro e w1 ⟨p, v, ps, rfl, hl, hA, hB⟩
  have HL := Aside0.mk hl
  have HA := Aside0.mk hA
  have HB := Aside0.mk hB
  clear hA hB HN hl
  have G : ∀ {hs : List (List S31)} {w2 : World} {Ts : List Th} (x : S31) (h : Has w.heap.size w2 (workL p v ps hs ++ Ts)) (hn : hs.length = 2) (hx : GoodT x) (hm : ∀ s ∈ hs, s.length < 1000000), Calls Try.prog 8 #[ptr p, aggT x] w2 (PutPost w.heap.size w2 p v ps (putS hs x) Ts (putE hs x)) := fun x h hn hx hm => put_calls h (HL.out.trans hn.symm) (by rw [HL.out]; decide) x hx hm
  have HG := Aside0.mk @G
  clear G
  go_wp2_with fail
  refine (HG.out ⟨2, 10⟩ HA.out rfl ⟨by decide, by decide⟩ (by decide)).mono ?_
  rintro e w2 ⟨rfl, hA, hB⟩
  rw [show putS [[], []] (⟨2, 10⟩ : S31) = [[⟨2, 10⟩], []] from rfl] at hA
  have HA2 := Aside0.mk hA
  have HB2 := Aside0.mk (HB.out.trans hB)
  clear hA hB HA HB
  go_wp2_with fail
  refine (HG.out ⟨4, 5⟩ HA2.out rfl ⟨by decide, by decide⟩ (by intro s hs; simp at hs; rcases hs with rfl | rfl <;> decide)).mono ?_
  rintro e w3 ⟨rfl, hA, hB⟩
  rw [show putS [[⟨2, 10⟩], []] (⟨4, 5⟩ : S31) = [[⟨4, 5⟩, ⟨2, 10⟩], []] from rfl] at hA
  have HA3 := Aside0.mk hA
  have HB3 := Aside0.mk (HB2.out.trans hB)
  clear hA hB HA2 HB2
  go_wp2_with fail
  refine (HG.out ⟨3, 7⟩ HA3.out rfl ⟨by decide, by decide⟩ (by intro s hs; simp at hs; rcases hs with rfl | rfl <;> decide)).mono ?_
  rintro e w4 ⟨rfl, hA, hB⟩
  rw [show putS [[⟨4, 5⟩, ⟨2, 10⟩], []] (⟨3, 7⟩ : S31) = [[⟨4, 5⟩, ⟨2, 10⟩], [⟨3, 7⟩]] from rfl] at hA
  have HA4 := Aside0.mk hA
  have HB4 := Aside0.mk (HB3.out.trans hB)
  clear hA hB HA3 HB3
  go_wp2_with fail
  refine (HG.out ⟨2, 11⟩ HA4.out rfl ⟨by decide, by decide⟩ (by intro s hs; simp at hs; rcases hs with rfl | rfl <;> decide)).mono ?_
  rintro e w5 ⟨rfl, hA, hB⟩
  rw [show putE [[⟨4, 5⟩, ⟨2, 10⟩], [⟨3, 7⟩]] (⟨2, 11⟩ : S31) = 260 from rfl]
  rw [show putS [[⟨4, 5⟩, ⟨2, 10⟩], [⟨3, 7⟩]] (⟨2, 11⟩ : S31) = [[⟨4, 5⟩, ⟨2, 10⟩], [⟨3, 7⟩]] from rfl] at hA
  have HA5 := Aside0.mk hA
  have HB5 := Aside0.mk (HB4.out.trans hB)
  clear hA hB HA4 HB4
  go_wp2_with fail
  refine (count_calls HA5.out HL.out 0).mono ?_
  rintro e w6 ⟨rfl, rfl⟩
  rw [show countR [[⟨4, 5⟩, ⟨2, 10⟩], [(⟨3, 7⟩ : S31)]] 0 = 2 from rfl]
  go_wp2_with fail
  refine (count_calls HA5.out HL.out 1).mono ?_
  rintro e w6 ⟨rfl, rfl⟩
  rw [show countR [[⟨4, 5⟩, ⟨2, 10⟩], [(⟨3, 7⟩ : S31)]] 1 = 1 from rfl]
  go_wp2_with fail
  refine (turn_calls HA5.out HL.out 1 6).mono ?_
  rintro e w6 ⟨rfl, hA, hB⟩
  rw [show turnR [[⟨4, 5⟩, ⟨2, 10⟩], [(⟨3, 7⟩ : S31)]] 1 6 = ⟨⟨4, 5⟩, true, true, [[⟨2, 10⟩], [⟨3, 7⟩]]⟩ from rfl] at hA ⊢
  dsimp only [turnV] at hA ⊢
  have HA6 := Aside0.mk ((hA.box #[.int .u32 4, .int .i64 5] 31).perm (List.perm_middle (l₁ := workL p v ps [[⟨2, 10⟩], [⟨3, 7⟩]])).symm)
  have HB6 := Aside0.mk ((HB5.out.trans hB).alloc hA.size (.cells #[.int .u32 4, .int .i64 5] 31))
  clear hA hB HA5 HB5
  go_wp2_with fail
  generalize w6.alloc (.cells #[.int .u32 4, .int .i64 5] 31) = w7 at HA6 HB6 ⊢
  generalize w6.heap.size = b6 at HA6 ⊢
  refine (turn_calls HA6.out HL.out 1 6).mono ?_
  rintro e w8 ⟨rfl, hA, hB⟩
  rw [show turnR [[⟨2, 10⟩], [(⟨3, 7⟩ : S31)]] 1 6 = ⟨z31, false, false, [[⟨2, 10⟩], [⟨3, 7⟩]]⟩ from rfl] at hA ⊢
  dsimp only [turnV, z31] at hA ⊢
  have HA8 := Aside0.mk ((hA.box #[.int .u32 0, .int .i64 0] 31).perm (List.perm_middle (l₁ := workL p v ps [[⟨2, 10⟩], [⟨3, 7⟩]])).symm)
  have HB8 := Aside0.mk ((HB6.out.trans hB).alloc hA.size (.cells #[.int .u32 0, .int .i64 0] 31))
  clear hA hB HA6 HB6
  go_wp2_with fail
  generalize w8.alloc (.cells #[.int .u32 0, .int .i64 0] 31) = w9 at HA8 HB8 ⊢
  generalize w8.heap.size = b8 at HA8 ⊢
  refine (turn_calls HA8.out HL.out 1 7).mono ?_
  rintro e w10 ⟨rfl, hA, hB⟩
  rw [show turnR [[⟨2, 10⟩], [(⟨3, 7⟩ : S31)]] 1 7 = ⟨⟨3, 7⟩, false, true, [[⟨2, 10⟩], []]⟩ from rfl] at hA ⊢
  dsimp only [turnV] at hA ⊢
  obtain ⟨q1, -, q3, -⟩ := Has.box_cell hA (b := b6) (cs := #[.int .u32 4, .int .i64 5]) (t := 31) (by simp)
  have q10 := cell_al (.cells #[.int .u32 3, .int .i64 7] 31) (show w10.cell? ⟨b6, 0, none⟩ = some (.int .u32 4) from q1 0)
  have q11 := cell_al (.cells #[.int .u32 3, .int .i64 7] 31) (show w10.cell? ⟨b6, 1, none⟩ = some (.int .i64 5) from q1 1)
  have HB10 := Aside0.mk ((HB8.out.trans hB).alloc hA.size (.cells #[.int .u32 3, .int .i64 7] 31))
  clear hA hB HA8 HB8 q1
  go_wp2
  go_ret
  exact ⟨rfl, HB10.out⟩
end Go.Proofs.Ytpnoghnhlddjeaa.Wk
