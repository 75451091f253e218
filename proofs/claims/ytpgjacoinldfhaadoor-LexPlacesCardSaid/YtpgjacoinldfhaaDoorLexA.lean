/- Plain facts on the printed functions of lex: what class, slices.Contains and valid answer. -/
import Derived.Test.YtpgjacoinldfhaaDoorQ1
import Derived.Test.YtpgjacoinldfhaaDoorQ2
import Derived.Test.YtpgjacoinldfhaaDoorQ0
namespace Go.Proofs.YtpgjacoinldfhaaDoor.Q
open Go.RowKit Go.Proofs.YtpgjacoinldfhaaDoorW.PrintWords Go.Proofs.YtpgjacoinldfhaaDoorW.PrintLast Go.Proofs.YtpgjacoinldfhaaDoorW.PrintMore
/-- The class of a byte, as lex.class gives it. -/
def clsN (b : Int) : Int :=
  if 97 ≤ b ∧ b ≤ 122 ∨ 65 ≤ b ∧ b ≤ 90 then 2 else if 48 ≤ b ∧ b ≤ 57 then 3 else if b = 95 then 5 else if b = 32 ∨ b = 9 ∨ b = 10 ∨ b = 13 then 1
  else if b = 123 ∨ b = 125 ∨ b = 40 ∨ b = 41 ∨ b = 59 ∨ b = 44 ∨ b = 61 ∨ b = 35 ∨ b = 47 ∨ b = 60 ∨ b = 33 ∨ b = 45 ∨ b = 46 ∨ b = 58 ∨ b = 43 then 4 else 0
theorem class_fin : ∀ c : Fin 256, lex_class.f 8 (c.val : Int) = some (clsN (c.val : Int)) := by decide +kernel
theorem class_some (b : Int) (h0 : 0 ≤ b) (h1 : b ≤ 255) : lex_class.f 8 b = some (clsN b) := by
  have h := class_fin ⟨b.toNat, by omega⟩
  have e : ((b.toNat : Nat) : Int) = b := by omega
  simpa only [e] using h
theorem class_calls (b : Int) (h0 : 0 ≤ b) (h1 : b ≤ 255) (w : World) :
    Calls Tryd.prog 30 #[.int .u8 b] w fun e w' => e = .returned (.int .i64 (clsN b)) ∧ Drawn0 w w' :=
  lex_class.calls 8 b _ w (class_some b h0 h1)
theorem wrap_small {i : Int} (h0 : -9223372036854775808 ≤ i) (h1 : i ≤ 9223372036854775807) : wrap64 i = i := by
  unfold wrap64; omega
theorem index_some (l : List Int) (a : Int) (hl : (l.length : Int) ≤ 1000000) (d : Nat) : ∀ (k i : Nat), i ≤ l.length → l.length - i = d → d < k →
    ∃ r, slices_Index_int_int.l0 k l a (l.length : Int) (i : Int) = some r ∧ (decide (r ≥ 0)) = (l.drop i).contains a := by
  induction d with
  | zero =>
    intro k i hi hd hk
    obtain ⟨k, rfl⟩ : ∃ m, k = m + 1 := ⟨k - 1, by omega⟩
    refine ⟨-1, ?_, ?_⟩
    · simp only [slices_Index_int_int.l0]; rw [if_neg (by omega)]
    · rw [List.drop_of_length_le (by omega)]; rfl
  | succ d ih =>
    intro k i hi hd hk
    obtain ⟨k, rfl⟩ : ∃ m, k = m + 1 := ⟨k - 1, by omega⟩
    have hlt : i < l.length := by omega
    have hrd : rd l (i : Int) = l[i] := by simp [rd, List.getD_eq_getElem?_getD, hlt]
    have hdrop : l.drop i = l[i] :: l.drop (i + 1) := List.drop_eq_getElem_cons hlt
    by_cases he : a = l[i]
    · refine ⟨(i : Int), ?_, ?_⟩
      · simp only [slices_Index_int_int.l0]; rw [if_pos (by omega), if_pos (by omega), if_pos (by omega), hrd, if_pos he]
      · rw [hdrop, List.contains_cons, he, beq_self_eq_true, Bool.true_or]; exact decide_eq_true (by omega)
    · obtain ⟨r, hr, h⟩ := ih k (i + 1) (by omega) (by omega) (by omega)
      refine ⟨r, ?_, ?_⟩
      · simp only [slices_Index_int_int.l0]; rw [if_pos (by omega), if_pos (by omega), if_pos (by omega), hrd, if_neg he, wrap_small (by omega) (by omega)]; exact hr
      · rw [h, hdrop, List.contains_cons, beq_eq_false_iff_ne.2 he, Bool.false_or]
theorem contains_some (l : List Int) (a : Int) (hl : (l.length : Int) ≤ 1000000) : slices_Contains_int_int.f (l.length + 1) l a = some (l.contains a) := by
  obtain ⟨r, hr, h⟩ := index_some l a hl l.length (l.length + 1) 0 (by omega) (by omega) (by omega)
  unfold slices_Contains_int_int.f slices_Index_int_int.f
  rw [show ((0 : Nat) : Int) = 0 from rfl] at hr
  rw [hr, Option.bind_some, h, List.drop_zero]
theorem contains_calls (A0 : Option Addr) (c0 : Nat) (l : List Int) (a : Int) (w : World) (hl : (l.length : Int) ≤ 1000000) (hr : Kd.C (Kd.int .i64) w A0 l.length l) (hc : l.length ≤ c0) :
    Calls Tryd.prog 52 #[.slice A0 l.length c0, .int .i64 a] w fun e w' => e = .returned (.bool (l.contains a)) ∧ Drawn0 w w' :=
  slices_Contains_int_int.calls _ A0 c0 l a _ w hr hc (contains_some l a hl)
end Go.Proofs.YtpgjacoinldfhaaDoor.Q
