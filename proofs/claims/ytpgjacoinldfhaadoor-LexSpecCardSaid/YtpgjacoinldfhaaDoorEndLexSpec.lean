/- The law LexSpec: the program's scanner answers as the document's. -/
import Derived.Test.YtpgjacoinldfhaaDoorRowLexSpec
import Derived.Test.YtpgjacoinldfhaaDoorPlain
namespace Go.Proofs.YtpgjacoinldfhaaDoor.Pl
open Go Go.Lib Go.RowKit Go.Proofs.YtpgjacoinldfhaaDoor.Q Go.Proofs.YtpgjacoinldfhaaDoorW.PrintWords Go.Proofs.YtpgjacoinldfhaaDoorW.PrintLast
theorem scan_len (l : List UInt8) (p : Nat) : (scan l p).1.length ≤ l.length := by
  refine scan_ind (M := fun l p => (scan l p).1.length ≤ l.length) (fun p => Nat.le_refl _) (fun c r p h => by rw [scan_none h]; exact Nat.zero_le _) (fun l x m p h h1 h2 ih => ?_) l p
  rw [scan_some h]
  rw [List.length_drop] at ih
  cases x with
  | sp => show (scan _ _).1.length ≤ _; omega
  | note => show (scan _ _).1.length ≤ _; omega
  | tok k t n =>
    show (_ :: (scan _ _).1).length ≤ _
    rw [List.length_cons]
    omega
theorem lexF_len (s : ByteArray) : (lexF s).1.length ≤ 65536 := by
  by_cases h : s.size ≤ 65536
  · rw [lexF_scan s h]
    have := scan_len s.data.toList 0
    rw [data_length] at this
    unfold fin
    split
    · simp only [List.nil_append]; omega
    · exact Nat.zero_le _
  · unfold lexF
    rw [if_pos (by omega)]
    exact Nat.zero_le _
theorem lexSpec_pure : LexSpecRow.Pure := fun a0 _ => by
  refine Ev.rounds (g := fun k => testamurlaw09_LexSpec.f k a0) ?_
  unfold testamurlaw09_LexSpec.f
  refine Ev.bind sane_is ?_
  refine Ev.congr (fun k => if_pos rfl) ?_
  by_cases h7 : (a0.size : Int) > 70000
  · exact Ev.congr (fun k => if_pos h7) (Ev.now _)
  · refine Ev.congr (fun k => if_neg h7) ?_
    simp only [lex_Lex.f, Option.bind_some]
    refine Ev.bind (reflex_is a0) ?_
    refine Ev.bind (refequal_is _ (Nat.lt_of_le_of_lt (lexF_len a0) (by decide))) ?_
    refine Ev.congr (fun k => if_pos rfl) ?_
    refine Ev.congr (fun k => if_pos rfl) ?_
    have e : ((lexF a0).2.2 == (lexF a0).2.2) = true := beq_self_eq_true _
    rw [e]
    exact Ev.now _
theorem lexSpec_done : Rows.LexSpecCardSaid := LexSpecRow.card lexSpec_pure
#print axioms lexSpec_done
end Go.Proofs.YtpgjacoinldfhaaDoor.Pl
