/- The law LexBack: what Text returns is scanned as the same tokens; and the tokens of every source have a text that is scanned as the same ones. -/
import Derived.Test.YtpgjacoinldfhaaDoorRowLexBack
import Derived.Test.YtpgjacoinldfhaaDoorPlainB
namespace Go.Proofs.YtpgjacoinldfhaaDoor.Pl
open Go Go.Lib Go.RowKit Go.Proofs.YtpgjacoinldfhaaDoor.Q Go.Proofs.YtpgjacoinldfhaaDoor.Kinds Go.Proofs.YtpgjacoinldfhaaDoorW.PrintWords Go.Proofs.YtpgjacoinldfhaaDoorW.PrintLast
theorem bytes_tok : Tryd.prog.bytesOf 35 = 40 := by kernel_rfl
theorem few_of {l : List S35} (h : l.length * Tryd.prog.bytesOf 35 ≤ reachBytes ∧ (∀ a ∈ l, Ok35 a)) : ∃ b, Ev (fun k => testamurref09_Few.f k l) b ∧ (b = true → l.length ≤ 200 ∧ sizes l ≤ 2000) := by
  obtain ⟨h1, h2⟩ := h
  rw [bytes_tok] at h1
  have hr : reachBytes = 140737488351232 := by decide
  exact reffew_is l (by omega) (fun x hx => by have := (h2 x hx).2.1; omega)
theorem text_ok {l : List S35} (h : (textF l).2 = 0) : (∀ x ∈ l, validB x = true) ∧ (textF l).1 = ⟨(join (l.map wordL) [32]).toArray⟩ := by
  unfold textF at h ⊢
  by_cases hv : l.all validB = true
  · rw [if_pos hv]
    exact ⟨List.all_eq_true.1 hv, rfl⟩
  · rw [if_neg hv] at h
    exact absurd (show (90 : Int) = 0 from h) (by decide)
theorem text_of {l : List S35} (h : ∀ x ∈ l, validB x = true) : textF l = (⟨(join (l.map wordL) [32]).toArray⟩, 0) := by
  unfold textF
  rw [if_pos (List.all_eq_true.2 h)]
theorem join_few {l : List S35} (h : ∀ x ∈ l, validB x = true) (hl : l.length ≤ 200) : (join (l.map wordL) [32]).length ≤ 65536 := by
  have hw : ∀ w ∈ l.map wordL, w.length ≤ 32 := by
    intro w hw
    obtain ⟨x, hx, rfl⟩ := List.mem_map.1 hw
    have := word_len (h x hx)
    rw [← data_length] at this
    exact this
  have := join_len hw
  rw [List.length_map] at this
  omega
theorem back_src (a1 : ByteArray) (h : a1.size ≤ 3000) : Ev (fun k => testamurlaw09_LexBack.j1 k a1) true := by
  refine Ev.step (fun k => by rw [testamurlaw09_LexBack.j1]) ?_
  simp only [lex_Lex.f, Option.bind_some]
  rw [lexF_scan a1 (by omega)]
  have hv := scan_valid a1.data.toList 0
  have hl := scan_lens a1.data.toList 0
  rw [data_length] at hl
  cases hs : scan a1.data.toList 0 with
  | mk ts o =>
    rw [hs] at hv hl
    cases o with
    | some e => exact Ev.congr (fun k => if_neg (by show ¬ (90 : Int) = 0; decide)) (Ev.now _)
    | none =>
      show Ev (fun k => if (0 : Int) = 0 then (lex_Text.f k ts).bind _ else _) true
      refine Ev.congr (fun k => if_pos rfl) ?_
      refine Ev.bind (lextext_is ts (by have := hl.2; simp only at this; omega)) ?_
      rw [text_of hv]
      have hj := join_le (ts.map wordL)
      rw [List.length_map] at hj
      obtain ⟨us, h1, h2⟩ := lexF_text ts hv (by have := hl.1; have := hl.2; simp only at *; omega)
      rw [h1]
      refine Ev.congr (fun k => if_pos rfl) ?_
      refine Ev.congr (fun k => if_pos rfl) ?_
      simp only [lex_Same.f, Option.bind_some]
      have h3 : sameB (fin [] (ts, none)).1 us = true := h2
      rw [h3]
      exact Ev.now _
theorem lexBack_pure : LexBackRow.Pure := fun l0 a1 h0 _ => by
  refine Ev.rounds (g := fun k => testamurlaw09_LexBack.f k l0 a1) ?_
  obtain ⟨b0, e0, f0⟩ := few_of h0
  unfold testamurlaw09_LexBack.f
  refine Ev.bind sane_is ?_
  refine Ev.congr (fun k => if_pos rfl) ?_
  have hout : Ev (fun k => testamurlaw09_LexBack.j0 k l0 a1 true) true := Ev.step (f := fun _ => some true) (fun k => by simp only [testamurlaw09_LexBack.j0, if_true]) (Ev.now _)
  refine Ev.bind e0 ?_
  cases b0 with
  | false => exact Ev.congr (fun k => if_neg (by simp)) hout
  | true =>
    refine Ev.congr (fun k => if_pos rfl) ?_
    obtain ⟨g0, g1⟩ := f0 rfl
    by_cases hz : (a1.size : Int) > 3000
    · rw [decide_eq_true hz]
      exact hout
    · rw [decide_eq_false hz]
      have hb := back_src a1 (by omega)
      refine Ev.step (fun k => by rw [testamurlaw09_LexBack.j0]) ?_
      refine Ev.congr (fun k => if_neg (by simp)) ?_
      refine Ev.bind (lextext_is l0 (by omega)) ?_
      by_cases ht : (textF l0).2 = 0
      · obtain ⟨hv, he⟩ := text_ok ht
        refine Ev.congr (fun k => if_pos ht) ?_
        simp only [lex_Lex.f, Option.bind_some]
        rw [he]
        obtain ⟨us, h1, h2⟩ := lexF_text l0 hv (join_few hv g0)
        rw [h1]
        refine Ev.congr (fun k => if_pos rfl) ?_
        refine Ev.congr (fun k => if_pos rfl) ?_
        simp only [lex_Same.f, Option.bind_some]
        exact Ev.congr (fun k => if_pos h2) hb
      · exact Ev.congr (fun k => if_neg ht) hb
theorem lexBack_done : Rows.LexBackCardSaid := LexBackRow.card lexBack_pure
#print axioms lexBack_done
end Go.Proofs.YtpgjacoinldfhaaDoor.Pl
