/- The law LexJoined: the tokens of two sources with a line feed between them are those of the first one, followed by those of the second one at later places. -/
import Derived.Test.YtpgjacoinldfhaaDoorRowLexJoined
import Derived.Test.YtpgjacoinldfhaaDoorPlainB
namespace Go.Proofs.YtpgjacoinldfhaaDoor.Pl
open Go Go.Lib Go.RowKit Go.Proofs.YtpgjacoinldfhaaDoor.Q Go.Proofs.YtpgjacoinldfhaaDoor.Kinds Go.Proofs.YtpgjacoinldfhaaDoorW.PrintWords Go.Proofs.YtpgjacoinldfhaaDoorW.PrintLast
theorem scan_place (l : List UInt8) (p : Nat) : ∀ x ∈ (scan l p).1, (p : Int) ≤ x.f3 ∧ x.f3 < (p + l.length : Nat) := by
  refine scan_ind (M := fun l p => ∀ x ∈ (scan l p).1, (p : Int) ≤ x.f3 ∧ x.f3 < (p + l.length : Nat)) (fun p x hx => by rw [scan_nil] at hx; cases hx) (fun c r p h x hx => by rw [scan_none h] at hx; cases hx) (fun l x m p h h1 h2 ih => ?_) l p
  rw [scan_some h]
  have hd : (l.drop m).length = l.length - m := List.length_drop
  have hrest : ∀ z ∈ (scan (l.drop m) (p + m)).1, (p : Int) ≤ z.f3 ∧ z.f3 < (p + l.length : Nat) := fun z hz => by
    have := ih z hz
    rw [hd] at this
    omega
  cases x with
  | sp => exact hrest
  | note => exact hrest
  | tok k t n =>
    intro z hz
    rcases List.mem_cons.1 hz with rfl | hz
    · refine ⟨Int.le_refl _, ?_⟩
      show (p : Int) < (p + l.length : Nat)
      omega
    · exact hrest z hz
theorem joined_loop (a0 : ByteArray) (q : Nat) (hq : q = a0.size + 1) (hq2 : q ≤ 3001) (ts us : List S35) (hts : ts.length ≤ 65536) (hus : us.length ≤ 65536) (hp : ∀ x ∈ us, 0 ≤ x.f3 ∧ x.f3 ≤ 3000) (m : Nat) : ∀ i : Nat, us.length - i = m → i ≤ us.length →
    Ev (fun k => testamurlaw09_LexJoined.l0 k a0 (ts ++ us.map (shift q)) 0 0 (ts ++ (us.take i).map (shift q)) us (us.length : Int) (i : Int)) true := by
  induction m with
  | zero =>
    intro i h1 h2
    rw [List.take_of_length_le (by omega)]
    refine Ev.step (fun k => by rw [testamurlaw09_LexJoined.l0]) ?_
    refine Ev.congr (fun k => if_neg (by omega)) ?_
    refine Ev.congr (fun k => if_pos rfl) ?_
    refine Ev.congr (fun k => if_pos rfl) ?_
    refine Ev.bind (refequal_is _ (by rw [List.length_append, List.length_map]; omega)) ?_
    exact Ev.now _
  | succ m ih =>
    intro i h1 h2
    have hx := drop_get us i (by omega)
    obtain ⟨ex, _, _⟩ := rd_drop us i _ _ hx
    have htk : us.take (i + 1) = us.take i ++ [us[i]'(by omega)] := List.take_succ_eq_append_getElem (by omega)
    have hmem : us[i]'(by omega) ∈ us := List.getElem_mem _
    have hih := ih (i + 1) (by omega) (by omega)
    rw [htk, List.map_append, List.map_singleton, ← List.append_assoc] at hih
    generalize us[i]'(by omega) = x at *
    have hpx := hp x hmem
    have e1 : wrap64 ((a0.size : Int) + 1) = (q : Int) := by rw [Q.wrap_small (by omega) (by omega)]; omega
    have e2 : wrap64 (x.f3 + (q : Int)) = x.f3 + (q : Int) := Q.wrap_small (by omega) (by omega)
    refine Ev.step (f := fun k => testamurlaw09_LexJoined.l0 k a0 (ts ++ us.map (shift q)) 0 0 (ts ++ (us.take i).map (shift q) ++ [shift q x]) us (us.length : Int) ((i + 1 : Nat) : Int)) (fun k => ?_) hih
    simp only [testamurlaw09_LexJoined.l0]
    rw [if_pos (by omega), if_pos (by omega), if_pos (by omega), if_pos (by rw [List.length_append, List.length_map, List.length_take]; omega), ex, wrap_nat i (by omega), e1, e2]
    rfl
theorem fin_err (ts : List S35) (e : Nat) : fin [] (ts, some e) = ([], (e : Int), 90) := rfl
theorem fin_ok (ts : List S35) : fin [] (ts, none) = (ts, 0, 0) := rfl
theorem lexJoined_pure : LexJoinedRow.Pure := fun a0 a1 h0 h1 => by
  refine Ev.rounds (g := fun k => testamurlaw09_LexJoined.f k a0 a1) ?_
  have hr : reachBytes = 140737488351232 := by decide
  unfold testamurlaw09_LexJoined.f
  refine Ev.bind sane_is ?_
  refine Ev.congr (fun k => if_pos rfl) ?_
  rw [Q.wrap_small (by omega) (by omega)]
  by_cases hz : (a0.size : Int) + (a1.size : Int) > 3000
  · exact Ev.congr (fun k => if_pos hz) (Ev.now _)
  · refine Ev.congr (fun k => if_neg hz) ?_
    simp only [lex_Lex.f, Option.bind_some]
    have hsz : (a0 ++ (⟨#[10]⟩ : ByteArray)).size = a0.size + 1 := by rw [ByteArray.size_append]; rfl
    have hl : (a0 ++ (⟨#[10]⟩ : ByteArray) ++ a1).data.toList = a0.data.toList ++ 10 :: a1.data.toList := by
      simp [ByteArray.data_append]
    have hla := scan_len a0.data.toList 0
    have hlb := scan_len a1.data.toList 0
    have hpb := scan_place a1.data.toList 0
    rw [data_length] at hla hlb hpb
    rw [lexF_scan a0 (by omega), lexF_scan a1 (by omega), lexF_scan (a0 ++ (⟨#[10]⟩ : ByteArray) ++ a1) (by rw [ByteArray.size_append, hsz]; omega), hl, scan_app, data_length, Nat.zero_add,
      show a0.size + 1 = 0 + (a0.size + 1) by omega, scan_shift]
    rw [show (0 + (a0.size + 1)) = a0.size + 1 by omega]
    refine Ev.congr (fun k => if_pos (by omega)) ?_
    refine Ev.congr (fun k => if_pos (by omega)) ?_
    cases hsa : scan a0.data.toList 0 with
    | mk ts o =>
      rw [hsa] at hla
      cases o with
      | some e =>
        have e1 : app (ts, some e) ((scan a1.data.toList 0).1.map (shift (a0.size + 1)), (scan a1.data.toList 0).2.map (· + (a0.size + 1))) = (ts, some e) := rfl
        rw [e1, fin_err]
        refine Ev.congr (fun k => if_neg (show ¬ (90 : Int) = 0 by decide)) ?_
        refine Ev.congr (fun k => if_pos rfl) ?_
        refine Ev.congr (fun k => if_pos rfl) ?_
        exact Ev.now _
      | none =>
        cases hsb : scan a1.data.toList 0 with
        | mk us o =>
          rw [hsb] at hlb hpb
          cases o with
          | some e =>
            obtain ⟨_, hlt, _, _⟩ := scan_take a1.data.toList 0 e (by rw [hsb])
            rw [data_length] at hlt
            have e1 : app (ts, none) (((us, some e) : List S35 × Option Nat).1.map (shift (a0.size + 1)), ((us, some e) : List S35 × Option Nat).2.map (· + (a0.size + 1))) = (ts ++ us.map (shift (a0.size + 1)), some (e + (a0.size + 1))) := rfl
            rw [e1, fin_err, fin_err, fin_ok]
            refine Ev.congr (fun k => if_pos rfl) ?_
            refine Ev.congr (fun k => if_neg (show ¬ (90 : Int) = 0 by decide)) ?_
            refine Ev.congr (fun k => if_pos rfl) ?_
            refine Ev.congr (fun k => if_pos ?_) ?_
            · show ((e + (a0.size + 1) : Nat) : Int) = wrap64 (wrap64 ((e : Int) + (a0.size : Int)) + 1)
              rw [Q.wrap_small (i := (e : Int) + (a0.size : Int)) (by omega) (by omega), Q.wrap_small (by omega) (by omega)]
              omega
            · exact Ev.now _
          | none =>
            have e1 : app (ts, none) (((us, none) : List S35 × Option Nat).1.map (shift (a0.size + 1)), ((us, none) : List S35 × Option Nat).2.map (· + (a0.size + 1))) = (ts ++ us.map (shift (a0.size + 1)), none) := rfl
            rw [e1, fin_ok, fin_ok, fin_ok]
            refine Ev.congr (fun k => if_pos rfl) ?_
            refine Ev.congr (fun k => if_pos rfl) ?_
            simp only [Option.bind_some]
            simp only at hla hlb
            refine Ev.congr (fun k => if_pos (by simp only [List.length_nil]; omega)) ?_
            have := joined_loop a0 (a0.size + 1) rfl (by omega) ts us (by omega) (by omega) (fun x hx => by have := hpb x hx; omega) _ 0 rfl (by omega)
            simpa using this
theorem lexJoined_done : Rows.LexJoinedCardSaid := LexJoinedRow.card lexJoined_pure
#print axioms lexJoined_done
end Go.Proofs.YtpgjacoinldfhaaDoor.Pl
