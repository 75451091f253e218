/- The law LexNames: a string is a name exactly if it is a single token of this kind, at its beginning and end. -/
import Derived.Test.YtpgjacoinldfhaaDoorRowLexNames
import Derived.Test.YtpgjacoinldfhaaDoorPlainB
namespace Go.Proofs.YtpgjacoinldfhaaDoor.Pl
open Go Go.Lib Go.RowKit Go.Proofs.YtpgjacoinldfhaaDoor.Q Go.Proofs.YtpgjacoinldfhaaDoor.Kinds Go.Proofs.YtpgjacoinldfhaaDoorW.PrintWords Go.Proofs.YtpgjacoinldfhaaDoorW.PrintLast
theorem lexname_is (s : ByteArray) : Ev (fun k => lex_Name.f k s) (nameL s.data.toList) := Ev.of (lex_Name.mono _) (name_some s)
theorem valid_name (s : ByteArray) : validB ⟨1, s, 0, 0⟩ = nameL s.data.toList := by
  unfold validB
  rw [if_pos rfl]
  show (nameL s.data.toList && true) = _
  rw [Bool.and_true]
theorem text_name (s : ByteArray) : ((textF [⟨1, s, 0, 0⟩]).2 == 0) = nameL s.data.toList := by
  unfold textF
  have e : [(⟨1, s, 0, 0⟩ : S35)].all validB = nameL s.data.toList := by
    rw [List.all_cons, List.all_nil, Bool.and_true, valid_name]
  cases hn : nameL s.data.toList with
  | true => rw [if_pos (by rw [e, hn])]; rfl
  | false => rw [if_neg (by rw [e, hn]; simp)]; rfl
theorem one_list (l : List S35) (h : l.length = 1) : l = [rd_T35 l 0] := by
  obtain ⟨x, rfl⟩ := List.length_eq_one_iff.1 h
  rfl
/-- What is no name is no such token. -/
theorem names_no (s : ByteArray) (hs : s.size ≤ 1000) (hn : nameL s.data.toList = false) (hf : (lexF s).2.2 = 0) (h1 : (lexF s).1.length = 1) (h2 : (rd_T35 (lexF s).1 0).f0 = 1) (h3 : (rd_T35 (lexF s).1 0).f1 = s) (h5 : (rd_T35 (lexF s).1 0).f2 = 0) : False := by
  have hv := scan_valid s.data.toList 0
  rw [lexF_scan s (by omega)] at hf h1 h2 h3 h5
  cases hsc : scan s.data.toList 0 with
  | mk ts o =>
    rw [hsc] at hf h1 h2 h3 h5 hv
    cases o with
    | some e => exact absurd (show (90 : Int) = 0 from hf) (by decide)
    | none =>
      have hts : (fin [] (ts, none)).1 = ts := rfl
      rw [hts] at h1 h2 h3 h5
      have hx := one_list ts h1
      have hm : rd_T35 ts 0 ∈ ts := by
        have : rd_T35 ts 0 ∈ [rd_T35 ts 0] := by simp
        rw [← hx] at this
        exact this
      have hval := hv _ hm
      unfold validB at hval
      rw [if_pos h2, h3, hn] at hval
      cases hval
theorem names_yes (s : ByteArray) (hs : s.size ≤ 1000) (hn : nameL s.data.toList = true) : lexF s = ([⟨1, s, 0, 0⟩], 0, 0) := by
  rw [lexF_scan s (by omega)]
  have hv : validB ⟨1, s, 0, 0⟩ = true := by rw [valid_name]; exact hn
  have hw : wordL ⟨1, s, 0, 0⟩ = s.data.toList := by
    unfold wordL wordB
    rw [if_neg (show ¬ ((1 : Int) = 2) by decide)]
  have := scan_word hv [] (fun b hb => by cases hb) 0
  rw [List.append_nil, hw, scan_nil] at this
  rw [this]
  rfl
theorem lexNames_pure : LexNamesRow.Pure := fun a0 h0 => by
  refine Ev.rounds (g := fun k => testamurlaw09_LexNames.f k a0) ?_
  have hr : reachBytes = 140737488351232 := by decide
  unfold testamurlaw09_LexNames.f
  refine Ev.bind sane_is ?_
  refine Ev.congr (fun k => if_pos rfl) ?_
  by_cases hz : (a0.size : Int) > 1000
  · exact Ev.congr (fun k => if_pos hz) (Ev.now _)
  · refine Ev.congr (fun k => if_neg hz) ?_
    simp only [lex_Lex.f, Option.bind_some]
    have ht := lextext_is [⟨1, a0, 0, 0⟩] (show 1 ≤ 1000000 by decide)
    have hnm := lexname_is a0
    cases hn : nameL a0.data.toList with
    | true =>
      rw [hn] at hnm
      rw [names_yes a0 (by omega) hn]
      refine Ev.congr (fun k => if_pos rfl) ?_
      refine Ev.congr (fun k => if_pos rfl) ?_
      refine Ev.congr (fun k => if_pos (show (0 : Int) < 1 by decide)) ?_
      refine Ev.congr (fun k => if_pos rfl) ?_
      refine Ev.congr (fun k => if_pos rfl) ?_
      refine Ev.congr (fun k => if_pos rfl) ?_
      refine Ev.bind ht ?_
      refine Ev.bind hnm ?_
      refine Ev.congr (fun k => if_pos rfl) ?_
      have e : ((((rd_T35 [(⟨1, a0, 0, 0⟩ : S35)] 0).f2) == 0) == ((textF [⟨1, a0, 0, 0⟩]).2 == 0)) = true := by
        rw [text_name, hn]
        rfl
      show Ev (fun _ => some ((((rd_T35 [(⟨1, a0, 0, 0⟩ : S35)] 0).f2) == 0) == ((textF [⟨1, a0, 0, 0⟩]).2 == 0))) true
      rw [e]
      exact Ev.now _
    | false =>
      rw [hn] at hnm
      have hrest : Ev (fun k => (lex_Text.f k [⟨1, a0, 0, 0⟩]).bind fun t => (lex_Name.f k a0).bind fun u => if (u == false) = true then some (false == (t.2 == 0)) else some false) true := by
        refine Ev.bind ht (Ev.bind hnm ?_)
        refine Ev.congr (fun k => if_pos rfl) ?_
        rw [text_name, hn]
        exact Ev.now _
      by_cases c1 : (lexF a0).2.2 = 0
      · refine Ev.congr (fun k => if_pos c1) ?_
        by_cases c2 : ((lexF a0).1.length : Int) = 1
        · refine Ev.congr (fun k => if_pos c2) ?_
          refine Ev.congr (fun k => if_pos (by omega)) ?_
          by_cases c3 : (rd_T35 (lexF a0).1 0).f0 = 1
          · refine Ev.congr (fun k => if_pos c3) ?_
            by_cases c4 : (rd_T35 (lexF a0).1 0).f1.toList = a0.toList
            · refine Ev.congr (fun k => if_pos c4) ?_
              by_cases c5 : (rd_T35 (lexF a0).1 0).f3 = 0
              · refine Ev.congr (fun k => if_pos c5) ?_
                have c6 : ((rd_T35 (lexF a0).1 0).f2 == 0) = false := by
                  rw [beq_eq_false_iff_ne]
                  intro c6
                  exact names_no a0 (by omega) hn c1 (by omega) c3 ((toList_iff _ _).1 c4) c6
                rw [c6]
                exact hrest
              · exact Ev.congr (fun k => if_neg c5) hrest
            · exact Ev.congr (fun k => if_neg c4) hrest
          · exact Ev.congr (fun k => if_neg c3) hrest
        · exact Ev.congr (fun k => if_neg c2) hrest
      · exact Ev.congr (fun k => if_neg c1) hrest
theorem lexNames_done : Rows.LexNamesCardSaid := LexNamesRow.card lexNames_pure
#print axioms lexNames_done
end Go.Proofs.YtpgjacoinldfhaaDoor.Pl
