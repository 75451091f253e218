/- The law LexWrong: what stands before the place of an error has tokens, and an error remains whatever is written behind it. -/
import Derived.Test.YtpgjacoinldfhaaDoorRowLexWrong
import Derived.Test.YtpgjacoinldfhaaDoorPlainB
namespace Go.Proofs.YtpgjacoinldfhaaDoor.Pl
open Go Go.Lib Go.RowKit Go.Proofs.YtpgjacoinldfhaaDoor.Q Go.Proofs.YtpgjacoinldfhaaDoor.Kinds Go.Proofs.YtpgjacoinldfhaaDoorW.PrintWords Go.Proofs.YtpgjacoinldfhaaDoorW.PrintLast
theorem prefix_list (s : ByteArray) (e : Nat) : (s.extract 0 e).data.toList = s.data.toList.take e := by
  have := extract_list s 0 e
  rw [Nat.zero_add, List.drop_zero] at this
  exact this
theorem fin_err (ts : List S35) (e : Nat) : fin [] (ts, some e) = ([], (e : Int), 90) := rfl
theorem lexWrong_pure : LexWrongRow.Pure := fun a0 a1 h0 h1 => by
  refine Ev.rounds (g := fun k => testamurlaw09_LexWrong.f k a0 a1) ?_
  have hr : reachBytes = 140737488351232 := by decide
  unfold testamurlaw09_LexWrong.f
  refine Ev.bind sane_is ?_
  refine Ev.congr (fun k => if_pos rfl) ?_
  rw [Q.wrap_small (by omega) (by omega)]
  by_cases hz : (a0.size : Int) + (a1.size : Int) > 3000
  · exact Ev.congr (fun k => if_pos hz) (Ev.now _)
  · refine Ev.congr (fun k => if_neg hz) ?_
    simp only [lex_Lex.f, Option.bind_some]
    rw [lexF_scan a0 (by omega)]
    cases hs : scan a0.data.toList 0 with
    | mk ts o =>
      cases o with
      | none => exact Ev.congr (fun k => if_pos rfl) (Ev.now _)
      | some e =>
        have hse : (scan a0.data.toList 0).2 = some e := by rw [hs]
        obtain ⟨_, hlt, htk, hdr⟩ := scan_take a0.data.toList 0 e hse
        rw [data_length, Nat.zero_add] at hlt
        rw [Nat.sub_zero] at htk hdr
        rw [fin_err]
        refine Ev.congr (fun k => if_neg (show ¬ (90 : Int) = 0 by decide)) ?_
        refine Ev.congr (fun k => if_pos rfl) ?_
        refine Ev.congr (fun k => if_neg (show ¬ (e : Int) < 0 by omega)) ?_
        rw [decide_eq_false (show ¬ (e : Int) ≥ (a0.size : Int) by omega)]
        refine Ev.step (fun k => by rw [testamurlaw09_LexWrong.j0]) ?_
        refine Ev.congr (fun k => if_neg (by simp)) ?_
        refine Ev.congr (fun k => if_pos (show (0 : Int) ≤ (e : Int) by omega)) ?_
        refine Ev.congr (fun k => if_pos (show (e : Int) ≤ (a0.size : Int) by omega)) ?_
        simp only [lex_Lex.f, Option.bind_some, Int.toNat_natCast]
        refine Ev.congr (fun k => if_pos (by omega)) ?_
        have hsz : (a0 ++ (⟨#[32]⟩ : ByteArray)).size = a0.size + 1 := by rw [ByteArray.size_append]; rfl
        refine Ev.congr (fun k => if_pos (by omega)) ?_
        have e1 : lexF (a0.extract 0 e) = ((scan (a0.data.toList.take e) 0).1, 0, 0) := by
          rw [lexF_scan _ (by rw [← data_length, prefix_list, List.length_take, data_length]; omega), prefix_list]
          unfold fin
          rw [htk]
          rfl
        have e2 : lexF (a0 ++ (⟨#[32]⟩ : ByteArray) ++ a1) = ([], (e : Int), 90) := by
          have hl : (a0 ++ (⟨#[32]⟩ : ByteArray) ++ a1).data.toList = a0.data.toList ++ 32 :: a1.data.toList := by
            simp [ByteArray.data_append]
          rw [lexF_scan _ (by rw [ByteArray.size_append, hsz]; omega), hl]
          unfold fin
          rw [scan_err_app _ _ _ _ hse]
        have e3 : lexF (a0.extract e a0.size) = ([], 0, 90) := by
          have hl : (a0.extract e a0.size).data.toList = a0.data.toList.drop e := extract_drop a0 e
          rw [lexF_scan _ (by rw [← data_length, hl, List.length_drop, data_length]; omega), hl]
          unfold fin
          rw [hdr 0]
          rfl
        rw [e1, e2, e3]
        refine Ev.congr (fun k => if_pos rfl) ?_
        refine Ev.congr (fun k => if_pos rfl) ?_
        refine Ev.congr (fun k => if_pos rfl) ?_
        refine Ev.congr (fun k => if_pos rfl) ?_
        refine Ev.congr (fun k => if_pos rfl) ?_
        exact Ev.now _
theorem lexWrong_done : Rows.LexWrongCardSaid := LexWrongRow.card lexWrong_pure
#print axioms lexWrong_done
end Go.Proofs.YtpgjacoinldfhaaDoor.Pl
