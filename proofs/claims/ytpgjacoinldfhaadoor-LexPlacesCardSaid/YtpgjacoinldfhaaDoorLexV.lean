/- Plain facts: what lex.Name and lex.valid answer. -/
import Derived.Test.YtpgjacoinldfhaaDoorQ1
import Derived.Test.YtpgjacoinldfhaaDoorQ0
import Derived.Test.YtpgjacoinldfhaaDoorScan
namespace Go.Proofs.YtpgjacoinldfhaaDoor.Q
open Go.RowKit Go.Proofs.YtpgjacoinldfhaaDoorW.PrintWords Go.Proofs.YtpgjacoinldfhaaDoorW.PrintLast Go.Proofs.YtpgjacoinldfhaaDoorW.PrintMore
set_option linter.unusedSimpArgs false
/-- Is a byte a part of a name? -/
def partB (c : UInt8) : Bool := clsN (c.toNat : Int) == 2 || clsN (c.toNat : Int) == 3 || clsN (c.toNat : Int) == 5
theorem class_at (k : Nat) (b : Int) (h0 : 0 ≤ b) (h1 : b ≤ 255) : lex_class.f (8 + k) b = some (clsN b) :=
  more_rounds (g := fun k => lex_class.f k b) (fun k => lex_class.mono b k) 8 k _ (class_some b h0 h1)
theorem name_loop (s : ByteArray) (hs : s.size ≤ 1000000) (d : Nat) : ∀ (k i : Nat), i ≤ s.size → s.size - i = d → d < k → lex_Name.l0 (8 + k) s (s.size : Int) (i : Int) = some ((s.data.toList.drop i).all partB) := by
  induction d with
  | zero =>
    intro k i hi hd hk
    obtain ⟨k, rfl⟩ : ∃ m, k = m + 1 := ⟨k - 1, by omega⟩
    rw [show 8 + (k + 1) = (8 + k) + 1 from rfl]
    simp only [lex_Name.l0]
    rw [if_neg (by omega), List.drop_of_length_le (by rw [data_length]; omega)]
    rfl
  | succ d ih =>
    intro k i hi hd hk
    obtain ⟨k, rfl⟩ : ∃ m, k = m + 1 := ⟨k - 1, by omega⟩
    have hlt : i < s.size := by omega
    have hb := bt_range s (i : Int)
    have hw : wrap64 ((i : Int) + 1) = ((i + 1 : Nat) : Int) := by rw [wrap_small (by omega) (by omega)]; omega
    rw [show 8 + (k + 1) = (8 + k) + 1 from rfl]
    simp only [lex_Name.l0]
    rw [if_pos (by omega), if_pos (by omega), if_pos (by omega), class_at k _ hb.1 hb.2, Option.bind_some, hw, ih k (i + 1) (by omega) (by omega) (by omega)]
    have hd : s.data.toList.drop i = s.data.toList[i]'(by rw [data_length]; exact hlt) :: s.data.toList.drop (i + 1) := List.drop_eq_getElem_cons _
    rw [hd, List.all_cons]
    have hg := bt_get s i hlt
    unfold partB
    rw [← hg]
    by_cases h2 : clsN (bt s (i : Int)) = 2
    · rw [if_pos h2, h2]; rfl
    · rw [if_neg h2]
      by_cases h3 : clsN (bt s (i : Int)) = 3
      · rw [if_pos h3, h3]; rfl
      · rw [if_neg h3]
        by_cases h5 : clsN (bt s (i : Int)) = 5
        · rw [if_pos h5, h5]; rfl
        · rw [if_neg h5, beq_eq_false_iff_ne.2 h2, beq_eq_false_iff_ne.2 h3, beq_eq_false_iff_ne.2 h5]; rfl
theorem toList_nil (s : ByteArray) : s.toList = ([] : List UInt8) ↔ s.size = 0 := by
  rw [ByteArray.toList_eq, ← List.length_eq_zero_iff, data_length]
theorem name_some (s : ByteArray) : lex_Name.f 50 s = some (nameL s.data.toList) := by
  unfold lex_Name.f nameL
  have hlen := data_length s
  by_cases h0 : s.size = 0
  · rw [if_pos ((toList_nil s).2 h0)]
    simp only [lex_Name.j0, if_true]
    rw [decide_eq_false (by omega)]; rfl
  · rw [if_neg (fun h => h0 ((toList_nil s).1 h))]
    by_cases h1 : (s.size : Int) > 32
    · rw [if_pos h1]
      simp only [lex_Name.j0, if_true]
      rw [decide_eq_false (by omega)]; rfl
    · rw [if_neg h1, if_pos (by omega)]
      have hb := bt_range s 0
      have hg := bt_get s 0 (by omega)
      have hg0 : bt s 0 = ((s.data.toList[0]'(by omega)).toNat : Int) := hg
      rw [class_at 42 _ hb.1 hb.2, Option.bind_some, decide_eq_true ⟨by omega, by omega⟩, Bool.true_and]
      have hd : s.data.toList = s.data.toList[0]'(by omega) :: s.data.toList.drop 1 := by
        have := List.drop_eq_getElem_cons (l := s.data.toList) (i := 0) (by omega)
        simpa using this
      have hh : s.data.toList.head? = some (s.data.toList[0]'(by omega)) := by rw [List.head?_eq_getElem?, List.getElem?_eq_getElem (by omega)]
      rw [hh, Option.all_some, ← hg0]
      simp only [lex_Name.j0]
      by_cases h2 : clsN (bt s 0) = 2
      · rw [h2, if_neg (by decide)]
        have hl := name_loop s (by omega) s.size 41 0 (by omega) (by omega) (by omega)
        rw [show ((0 : Nat) : Int) = 0 from rfl, List.drop_zero] at hl
        rw [hl]
        rfl
      · rw [bne_iff_ne.2 h2, if_pos rfl, beq_eq_false_iff_ne.2 h2]; rfl
theorem valid_some (x : S35) : lex_valid.f 50 x.f0 x.f1 x.f2 x.f3 = some (validB x) := by
  unfold lex_valid.f validB
  by_cases h1 : x.f0 = 1
  · rw [if_pos h1, if_pos h1, name_some, Option.bind_some]
    cases nameL x.f1.data.toList <;> simp
  · rw [if_neg h1, if_neg h1]
    by_cases h2 : x.f0 = 2
    · rw [if_pos h2, if_pos h2]
      by_cases h0 : x.f1.size = 0
      · rw [if_pos ((toList_nil x.f1).2 h0)]
        by_cases h3 : x.f2 ≥ 0
        · rw [if_pos h3]; congr 1; rw [decide_eq_decide]; omega
        · rw [if_neg h3]; congr 1; symm; apply decide_eq_false; omega
      · rw [if_neg (fun h => h0 ((toList_nil x.f1).1 h))]; congr 1; symm; apply decide_eq_false; omega
    · rw [if_neg h2, if_neg h2]
      by_cases h3 : x.f0 = 3
      · rw [if_pos h3, if_pos h3]
        by_cases h4 : x.f1.size = 1
        · rw [if_pos (by omega), if_pos (by omega)]
          have hb := bt_range x.f1 0
          obtain ⟨c, hc⟩ := List.length_eq_one_iff.1 ((data_length x.f1).trans h4)
          have hg : bt x.f1 0 = (c.toNat : Int) := by
            have := bt_get x.f1 0 (by omega)
            simp only [hc] at this
            exact this
          rw [class_at 42 _ hb.1 hb.2, Option.bind_some, decide_eq_true h4, Bool.true_and, hc, List.all_cons, List.all_nil, Bool.and_true, ← hg]
          by_cases h5 : clsN (bt x.f1 0) = 4
          · rw [if_pos h5, h5]; rfl
          · rw [if_neg h5, beq_eq_false_iff_ne.2 h5]; rfl
        · rw [if_neg (by omega), decide_eq_false h4]; rfl
      · rw [if_neg h3, if_neg h3]
end Go.Proofs.YtpgjacoinldfhaaDoor.Q
