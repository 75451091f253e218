/- The law LexTextSpec: Text, Same and Name of the program answer as the document's. -/
import Derived.Test.YtpgjacoinldfhaaDoorRowLexTextSpec
import Derived.Test.YtpgjacoinldfhaaDoorPlainB
namespace Go.Proofs.YtpgjacoinldfhaaDoor.Pl
open Go Go.Lib Go.RowKit Go.Proofs.YtpgjacoinldfhaaDoor.Q Go.Proofs.YtpgjacoinldfhaaDoor.Kinds Go.Proofs.YtpgjacoinldfhaaDoorW.PrintWords Go.Proofs.YtpgjacoinldfhaaDoorW.PrintLast
theorem bytes_tok : Tryd.prog.bytesOf 35 = 40 := by kernel_rfl
theorem lexname_is (s : ByteArray) : Ev (fun k => lex_Name.f k s) (nameL s.data.toList) := Ev.of (lex_Name.mono _) (name_some s)
theorem few_of {l : List S35} (h : l.length * Tryd.prog.bytesOf 35 ≤ reachBytes ∧ (∀ a ∈ l, Ok35 a)) : ∃ b, Ev (fun k => testamurref09_Few.f k l) b ∧ (b = true → l.length ≤ 200 ∧ sizes l ≤ 2000) := by
  obtain ⟨h1, h2⟩ := h
  rw [bytes_tok] at h1
  have hr : reachBytes = 140737488351232 := by decide
  exact reffew_is l (by omega) (fun x hx => by have := (h2 x hx).2.1; omega)
theorem small_of {l : List S35} (h : sizes l ≤ 2000) : ∀ x ∈ l, x.f1.size ≤ 1000000 := fun x hx => by have := le_sizes l x hx; omega
theorem lexTextSpec_pure : LexTextSpecRow.Pure := fun l0 l1 a2 h0 h1 _ => by
  refine Ev.rounds (g := fun k => testamurlaw09_LexTextSpec.f k l0 l1 a2) ?_
  obtain ⟨b0, e0, f0⟩ := few_of h0
  obtain ⟨b1, e1, f1⟩ := few_of h1
  unfold testamurlaw09_LexTextSpec.f
  refine Ev.bind sane_is ?_
  refine Ev.congr (fun k => if_pos rfl) ?_
  have hout : Ev (fun k => testamurlaw09_LexTextSpec.j0 k l0 l1 a2 true) true := Ev.step (f := fun _ => some true) (fun k => by simp only [testamurlaw09_LexTextSpec.j0, if_true]) (Ev.now _)
  refine Ev.bind e0 ?_
  cases b0 with
  | false => exact Ev.congr (fun k => if_neg (by simp)) hout
  | true =>
    refine Ev.congr (fun k => if_pos rfl) ?_
    refine Ev.bind e1 ?_
    cases b1 with
    | false => exact Ev.congr (fun k => if_neg (by simp)) hout
    | true =>
      refine Ev.congr (fun k => if_pos rfl) ?_
      obtain ⟨g0, g1⟩ := f0 rfl
      obtain ⟨g2, g3⟩ := f1 rfl
      by_cases hz : (a2.size : Int) > 1000
      · rw [decide_eq_true hz]
        exact hout
      · rw [decide_eq_false hz]
        refine Ev.step (fun k => by rw [testamurlaw09_LexTextSpec.j0]) ?_
        refine Ev.congr (fun k => if_neg (by simp)) ?_
        refine Ev.bind (lextext_is l0 (by omega)) ?_
        refine Ev.bind (reftext_is l0 (by omega) (small_of g1)) ?_
        refine Ev.congr (fun k => if_pos rfl) ?_
        refine Ev.congr (fun k => if_pos rfl) ?_
        simp only [lex_Same.f, Option.bind_some]
        refine Ev.bind (refsame_is l0 l1 (by omega) (by omega)) ?_
        refine Ev.congr (fun k => if_pos (by simp)) ?_
        refine Ev.congr (fun k => if_pos (sameB_refl l0)) ?_
        refine Ev.bind (lexname_is a2) ?_
        refine Ev.bind (refname_is a2 (by omega)) ?_
        have e : (nameL a2.data.toList == nameL a2.data.toList) = true := beq_self_eq_true _
        rw [e]
        exact Ev.now _
theorem lexTextSpec_done : Rows.LexTextSpecCardSaid := LexTextSpecRow.card lexTextSpec_pure
#print axioms lexTextSpec_done
end Go.Proofs.YtpgjacoinldfhaaDoor.Pl
