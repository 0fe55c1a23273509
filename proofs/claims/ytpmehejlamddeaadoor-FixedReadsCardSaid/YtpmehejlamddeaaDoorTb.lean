/- The library's table of the powers of ten, kept through all that a walk does; strings.Repeat, strings.TrimRight at one byte, strconv.FormatInt at base ten: by the library's contracts. -/
import Derived.Test.YtpmehejlamddeaaDoorLay
import Derived.Lib.LaidTab
import Derived.Lib.AppendIntMem
import Derived.Lib.AtoiErrMem
import Derived.WalkKit
import Derived.Test.YtpmehejlamddeaaDoorOpen
namespace Go.Proofs.YtpmehejlamddeaaDoor.Q
open Go.RowKit Go.Lib
theorem size1 (b : UInt8) : (⟨#[b]⟩ : ByteArray).size = 1 := rfl
/-- The table lies as the library lays it. -/
def Tb (w : World) : Prop := Lib.TabIs Tryd.prog w "internal/strconv.uint64pow10" .u64 Lib.pow10Tab
theorem tb_heap {w w' : World} (h : Tb w) (hb : ∀ k, k < w.heap.size → w'.heap[k]? = w.heap[k]?) : Tb w' := by
  unfold Tb Lib.TabIs World.var? at h ⊢
  cases hg : Tryd.prog.globalNamed "internal/strconv.uint64pow10" with
  | none => rw [hg] at h; cases h
  | some g =>
    rw [hg] at h
    simp only [Option.bind_some] at h ⊢
    have hlt : g < w.heap.size := by
      rcases Nat.lt_or_ge g w.heap.size with h' | h'
      · exact h'
      · rw [Array.getElem?_eq_none h'] at h; cases h
    rw [hb g hlt]
    exact h
theorem tb_below {w w' : World} (h : Tb w) (hb : Below w.heap.size w w') : Tb w' := tb_heap h fun k hk => hb.block k hk
theorem tb_alloc {w : World} (h : Tb w) (o : Obj) : Tb (w.alloc o) := tb_below h ((Below.refl _ _).alloc (Nat.le_refl _) o)
theorem tb_drew {w : World} (h : Tb w) : Tb w.drew := tb_heap h fun _ _ => rfl
theorem tb_drewN {w : World} (h : Tb w) (n : Nat) : Tb (w.drewN n) := tb_heap h fun _ _ => rfl
theorem extra105 : Go.Proofs.Builder.Extra Tryd.prog Lay.lays105_ren := {
  sizeBuilder := by kernel_rfl
  liesBuilder := by kernel_rfl
  t5 := Tryd.underlying5
  a5 := Tryd.isAgg5
  z5 := Tryd.sizeOf5
  v5 := Tryd.zeroValue5
  infoByte := by kernel_rfl
  cellsByte := by kernel_rfl
  sizeByte := by kernel_rfl
  neB5 := by decide }
theorem repeat_calls (s : ByteArray) (c : Nat) (w : World) (hc : c ≤ 9223372036854775807) (hlen : s.size * c ≤ 140737488355328) :
    Calls Tryd.prog 24 #[.string s, .int .i64 c] w fun e w' => e = .returned (.string ⟨(Lib.repeatL s.data.toList c).toArray⟩) ∧ Below w.heap.size w w' :=
  Any.strings_Repeat Lay.lays105 extra105 s c w hc hlen
theorem trim_calls (s : ByteArray) (c : UInt8) (hc : c.toNat < 128) (w : World) (hs : s.size ≤ 9223372036854775807) :
    Calls Tryd.prog 28 #[.string s, .string ⟨#[c]⟩] w fun e w' => e = .returned (.string ⟨(Lib.trimRightB s.data.toList c).toArray⟩) ∧ w' = w :=
  Any.strings_TrimRight_one Lay.lays162 s c hc w hs
theorem format_calls (n : Int) (h0 : -9223372036854775808 ≤ n) (h1 : n ≤ 9223372036854775807) (w : World) (h : Tb w) :
    Calls Tryd.prog 27 #[.int .i64 n, .int .i64 10] w fun e w' => e = .returned (.string ⟨(Lib.itoa n).toArray⟩) ∧ Below w.heap.size w w' := by
  refine (Any.strconv_FormatInt_10 Lay.laysM173 n h0 h1 w h).mono ?_
  rintro e w' ⟨rfl, k, os, rfl⟩
  exact ⟨rfl, below_grow _ _ (Nat.le_refl _) _ _⟩
end Go.Proofs.YtpmehejlamddeaaDoor.Q
