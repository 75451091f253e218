/- The contracts of strings.IndexByte, strconv.Itoa and strings.Join in the form that the printed callers ask, out of the shelf's theorems. -/
import Derived.Test.YtpgjacoinldfhaaDoorQ0
import Derived.Test.YtpgjacoinldfhaaDoorShelf
import Derived.Test.YtpgjacoinldfhaaDoorLaid
namespace Go.Proofs.YtpgjacoinldfhaaDoor.Q
open Go.RowKit Go.Proofs.YtpgjacoinldfhaaDoorW.PrintWords Go.Proofs.YtpgjacoinldfhaaDoorW.PrintLast Go.Proofs.YtpgjacoinldfhaaDoorW.PrintMore
/- strings.IndexByte -/
def strings_IndexByte.f (a0 : ByteArray) (a1 : Int) : Option Int := some (Lib.indexByte a0.data.toList a1.toNat.toUInt8)
theorem strings_IndexByte.calls (a0 : ByteArray) (a1 : Int) (r : Int) (w : World) (h : strings_IndexByte.f a0 a1 = some r) :
    Calls Tryd.prog 47 #[.string a0, .int .u8 a1] w fun e w' => e = .returned (.int .i64 r) ∧ Drawn0 w w' := by
  refine (Tryd.strings_IndexByte a0 a1 w).mono ?_
  rintro e w' ⟨rfl, rfl⟩
  have h' := Option.some.inj h
  subst h'
  exact ⟨rfl, Drawn0.refl _⟩
/- strconv.Itoa -/
def strconv_Itoa.f (a0 : Int) : Option ByteArray := if -9223372036854775808 ≤ a0 ∧ a0 ≤ 9223372036854775807 then some ⟨(Lib.itoa a0).toArray⟩ else none
theorem below_growN (w : World) (k : Nat) (os : Array Obj) : Below w.heap.size w (Go.Sort.grow (w.drewN k) os) := by
  refine ⟨rfl, rfl, rfl, ?_, ?_⟩
  · show w.heap.size ≤ (w.heap ++ os).size
    rw [Array.size_append]; omega
  · intro i hi
    show (w.heap ++ os)[i]? = w.heap[i]?
    rw [Array.getElem?_append_left hi]
theorem strconv_Itoa.calls (a0 : Int) (r : ByteArray) (w : World) (hL_ : Laid w) (h : strconv_Itoa.f a0 = some r) :
    Calls Tryd.prog 37 #[.int .i64 a0] w fun e w' => e = .returned (.string r) ∧ Below w.heap.size w w' := by
  unfold strconv_Itoa.f at h
  split at h
  · rename_i hb
    have h' := Option.some.inj h
    subst h'
    refine (Tryd.strconv_Itoa a0 hb.1 hb.2 w hL_.tab).mono ?_
    rintro e w' ⟨rfl, k, os, rfl⟩
    exact ⟨rfl, below_growN _ _ _⟩
  · cases h
/- strings.Join -/
def strings_Join.f (l0 : List ByteArray) (a1 : ByteArray) : Option ByteArray := if l0.length ≤ 140737488355328 ∧ (Lib.join (l0.map (·.data.toList)) a1.data.toList).length ≤ 140737488355328 then some ⟨(Lib.join (l0.map (·.data.toList)) a1.data.toList).toArray⟩ else none
theorem addr_plain {w : World} {ad : Addr} {v : Value} (h : w.cell? ad = some v) : ∃ b o, ad = ⟨b, o, none⟩ := by
  obtain ⟨b, o, s⟩ := ad
  cases s with
  | none => exact ⟨b, o, rfl⟩
  | some x => simp [World.cell?] at h; split at h <;> simp at h
theorem strings_Join.calls (A0 : Option Addr) (c0 : Nat) (l0 : List ByteArray) (a1 : ByteArray) (r : ByteArray) (w : World) (hr0 : Kd.C Kd.string w A0 l0.length l0) (hc0 : l0.length ≤ c0) (h : strings_Join.f l0 a1 = some r) :
    Calls Tryd.prog 38 #[.slice A0 l0.length c0, .string a1] w fun e w' => e = .returned (.string r) ∧ Below w.heap.size w w' := by
  unfold strings_Join.f at h
  split at h
  · rename_i hb
    have h' := Option.some.inj h
    subst h'
    rcases Nat.eq_zero_or_pos l0.length with h0 | h0
    · have : l0 = [] := List.length_eq_zero_iff.mp h0
      subst this
      refine (Tryd.strings_Join_none A0 c0 a1 w).mono ?_
      rintro e w' ⟨rfl, rfl⟩
      exact ⟨by simp [Lib.join_nil], Below.refl _ _⟩
    · obtain ⟨ad, rfl, hcell⟩ := Kd.at_string hr0 0 (by omega) (by omega)
      have e0 : ad.add (0 : Int).toNat = ad := by simp [Addr.add]
      rw [e0] at hcell
      obtain ⟨b, o, rfl⟩ := addr_plain hcell
      refine (Tryd.strings_Join b o c0 l0 a1 w ?_ (World.block_lt_of_cell? w _ hcell) hb.1 hc0 hb.2).mono ?_
      · intro j x hj
        have hlt := (List.getElem?_eq_some_iff.1 hj).1
        obtain ⟨ad, he, hcell⟩ := Kd.at_string hr0 (j : Int) (by omega) (by omega)
        have := Option.some.inj he
        subst this
        have e1 : (⟨b, o, none⟩ : Addr).add (j : Int).toNat = ⟨b, o + j, none⟩ := add_at b o j
        rw [e1] at hcell
        rw [hcell]
        simp [rdOf, List.getD_eq_getElem?_getD, hj]
      · rintro e w' ⟨rfl, hw⟩
        exact ⟨rfl, hw⟩
  · cases h
end Go.Proofs.YtpgjacoinldfhaaDoor.Q
