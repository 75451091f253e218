/- What lex.Same computes (by slices.EqualFunc with a function literal), and that the call computes it. -/
import Derived.Test.YtpgjacoinldfhaaDoorQ4
import Derived.Test.YtpgjacoinldfhaaDoorQ0
import Derived.Test.YtpgjacoinldfhaaDoorLexA
import Derived.Deep.LoopGhost
import Derived.WalkSpells
import Derived.WalkLawsBesides
namespace Go.Proofs.YtpgjacoinldfhaaDoor.Q
open Go.RowKit Go.Proofs.YtpgjacoinldfhaaDoorW.PrintWords Go.Proofs.YtpgjacoinldfhaaDoorW.PrintLast Go.Proofs.YtpgjacoinldfhaaDoorW.PrintMore
set_option linter.unusedVariables false
set_option linter.unusedSimpArgs false
/-- Are two tokens equal apart from their places? -/
def same1 (x y : S35) : Bool := decide (x.f0 = y.f0 ∧ x.f1 = y.f1 ∧ x.f2 = y.f2)
def sameB : List S35 → List S35 → Bool
  | [], [] => true
  | x :: xs, y :: ys => same1 x y && sameB xs ys
  | _, _ => false
theorem same1_some (x y : S35) : lex_Same_1.f x.f0 x.f1 x.f2 x.f3 y.f0 y.f1 y.f2 y.f3 = some (same1 x y) := by
  have hl : x.f1.toList = y.f1.toList ↔ x.f1 = y.f1 := by
    rw [ByteArray.toList_eq, ByteArray.toList_eq]
    exact ⟨fun e => ByteArray.ext (Array.toList_inj.1 e), fun e => by rw [e]⟩
  unfold lex_Same_1.f same1
  by_cases h0 : x.f0 = y.f0
  · rw [if_pos h0]
    by_cases h1 : x.f1 = y.f1
    · rw [if_pos (hl.2 h1)]
      by_cases h2 : x.f2 = y.f2
      · rw [decide_eq_true ⟨h0, h1, h2⟩, h2, beq_self_eq_true]
      · rw [decide_eq_false (fun h => h2 h.2.2), beq_eq_false_iff_ne.2 h2]
    · rw [if_neg (fun h => h1 (hl.1 h)), decide_eq_false (fun h => h1 h.2.1)]
  · rw [if_neg h0, decide_eq_false (fun h => h0 h.1)]
theorem same_calls (x y : S35) (b : Bool) (hb : same1 x y = b) (w : World) :
    Calls Tryd.prog 42 #[.agg #[.int .i64 x.f0, .string x.f1, .int .i64 x.f2, .int .i64 x.f3], .agg #[.int .i64 y.f0, .string y.f1, .int .i64 y.f2, .int .i64 y.f3]] w fun e w' => e = .returned (.bool b) ∧ Below w.heap.size w w' :=
  lex_Same_1.calls _ _ _ _ _ _ _ _ b w (by rw [← hb]; exact same1_some x y)
theorem sameB_len : ∀ (l m : List S35), l.length ≠ m.length → sameB l m = false
  | [], [], h => absurd rfl h
  | [], _ :: _, _ => rfl
  | _ :: _, [], _ => rfl
  | x :: xs, y :: ys, h => by
    rw [sameB, sameB_len xs ys (by simpa using h), Bool.and_false]
abbrev eqf : Nat := 41
set_option maxHeartbeats 2000000 in
set_option maxRecDepth 100000 in
theorem equalFunc_calls (A0 : Option Addr) (c0 : Nat) (l0 : List S35) (A1 : Option Addr) (c1 : Nat) (l1 : List S35) (w : World)
    (hr0 : Kd.C k35 w A0 l0.length l0) (hr1 : Kd.C k35 w A1 l1.length l1) (hlen : l0.length = l1.length) :
    Calls Tryd.prog 41 #[.slice A0 l0.length c0, .slice A1 l1.length c1, .func (.func 42) #[] #[]] w
      fun e w' => e = .returned (.bool (sameB l0 l1)) ∧ Below w.heap.size w w' := by
  have hm := Kd.C_max hr0
  have HR0 := Aside0.mk hr0
  have HR1 := Aside0.mk hr1
  have HLEN := Aside0.mk hlen
  have hne : (l0.length == l1.length) = true := beq_iff_eq.2 hlen
  have hnf : ((l0.length : Int) != (l1.length : Int)) = false := by rw [hlen]; exact bne_self_eq_false _
  obtain ⟨R, hR⟩ : ∃ R, R = sameB l0 l1 := ⟨_, rfl⟩
  rw [← hR]
  have HS : Aside0 (sameB (l0.drop 0) (l1.drop 0) = R) := ⟨by rw [hR]; rfl⟩
  clear hR hr0 hr1 hlen
  go_enter Tryd.func41, Tryd.ntmps41
  go_wp2
  go_loopg [17] l0.length (fun m v17 wr => ∃ k : Nat, v17 = .int .i64 (k : Int) ∧ Aside0 (k + m = l0.length ∧ sameB (l0.drop k) (l1.drop k) = R) ∧ Aside0 (Below w.heap.size w wr))
  case atStart => exact ⟨0, rfl, ⟨by omega, HS.out⟩, ⟨Below.refl _ _⟩⟩
  case round =>
    obtain ⟨k, rfl, HA, HB⟩ := hrel
    have hk := HA.out.1
    by_cases hlt : k < l0.length
    · obtain ⟨ad, hA, p0, p1, p2, p3⟩ := at_T35 (Kd.C_below HR0.out HB.out) (k : Int) (by omega) (by omega)
      obtain ⟨ae, hE, q0, q1, q2, q3⟩ := at_T35 (Kd.C_below HR1.out HB.out) (k : Int) (by omega) (by have := HLEN.out; omega)
      subst hA
      subst hE
      have hltb : decide ((k : Int) < (l0.length : Int)) = true := decide_eq_true (by omega)
      have hltc : decide (k < l0.length) = true := decide_eq_true hlt
      have hlt1 : k < l1.length := by have := HLEN.out; omega
      have hltd : decide ((k : Int) < (l1.length : Int)) = true := decide_eq_true (by omega)
      rw [Int.toNat_natCast] at p0 p1 p2 p3 q0 q1 q2 q3
      obtain ⟨X, hX⟩ : ∃ X, X = rd_T35 l0 (k : Int) := ⟨_, rfl⟩
      obtain ⟨Y, hY⟩ : ∃ Y, Y = rd_T35 l1 (k : Int) := ⟨_, rfl⟩
      rw [← hX] at p0 p1 p2 p3
      rw [← hY] at q0 q1 q2 q3
      have hX' : l0.drop k = X :: l0.drop (k + 1) := by
        rw [hX, List.drop_eq_getElem_cons hlt]; simp [rd_T35, List.getD_eq_getElem?_getD, hlt]
      have hY' : l1.drop k = Y :: l1.drop (k + 1) := by
        rw [hY, List.drop_eq_getElem_cons hlt1]; simp [rd_T35, List.getD_eq_getElem?_getD, hlt1]
      have HF := HA.out.2
      rw [hX', hY', sameB] at HF
      clear hX hY hX' hY'
      have r0 : (wr.alloc (Obj.cells #[.int .i64 X.f0, .string X.f1, .int .i64 X.f2, .int .i64 X.f3] 35)).cell? (ae.add (k * 4)) = some (.int .i64 Y.f0) := pw_cell_below (below_alloc (Below.refl _ _) _) q0
      have r1 : (wr.alloc (Obj.cells #[.int .i64 X.f0, .string X.f1, .int .i64 X.f2, .int .i64 X.f3] 35)).cell? ⟨(ae.add (k * 4)).block, (ae.add (k * 4)).off + 1, none⟩ = some (.string Y.f1) := pw_cell_below (below_alloc (Below.refl _ _) _) q1
      have r2 : (wr.alloc (Obj.cells #[.int .i64 X.f0, .string X.f1, .int .i64 X.f2, .int .i64 X.f3] 35)).cell? ⟨(ae.add (k * 4)).block, (ae.add (k * 4)).off + 2, none⟩ = some (.int .i64 Y.f2) := pw_cell_below (below_alloc (Below.refl _ _) _) q2
      have r3 : (wr.alloc (Obj.cells #[.int .i64 X.f0, .string X.f1, .int .i64 X.f2, .int .i64 X.f3] 35)).cell? ⟨(ae.add (k * 4)).block, (ae.add (k * 4)).off + 3, none⟩ = some (.int .i64 Y.f3) := pw_cell_below (below_alloc (Below.refl _ _) _) q3
      clear q0 q1 q2 q3
      cases hs : same1 X Y with
      | true =>
        rw [hs, Bool.true_and] at HF
        have HFA := Aside0.mk HF
        have HSM := Aside0.mk hs
        clear HF hs
        go_wp2_with (first | (go_at_call 42; refine (same_calls X Y true HSM.out _).mono ?_; rintro e w' ⟨rfl, hb⟩; have HB' := Aside0.mk hb; clear hb))
        cases gk with
        | zero => omega
        | succ m =>
          go_roundg m
          case measure => omega
          case rel => exact ⟨k + 1, by go_num, ⟨by omega, HFA.out⟩, ⟨(HB.out.trans ((below_alloc (below_alloc (Below.refl wr.heap.size wr) _) _).mono HB.out.size)).trans (HB'.out.mono (by simp; have := HB.out.size; omega))⟩⟩
      | false =>
        rw [hs, Bool.false_and] at HF
        have HFA := Aside0.mk HF
        have HSM := Aside0.mk hs
        clear HF hs
        go_wp2_with (first | (go_at_call 42; refine (same_calls X Y false HSM.out _).mono ?_; rintro e w' ⟨rfl, hb⟩; have HB' := Aside0.mk hb; clear hb))
        go_ret
        exact ⟨by rw [← HFA.out]; rfl, (HB.out.trans ((below_alloc (below_alloc (Below.refl wr.heap.size wr) _) _).mono HB.out.size)).trans (HB'.out.mono (by simp; have := HB.out.size; omega))⟩
    · have hltb : decide ((k : Int) < (l0.length : Int)) = false := decide_eq_false (by omega)
      have hltc : decide (k < l0.length) = false := decide_eq_false hlt
      have HFA : Aside0 (true = R) := ⟨by rw [← HA.out.2, List.drop_of_length_le (by omega), List.drop_of_length_le (by have := HLEN.out; omega)]; rfl⟩
      go_wp2
      go_ret
      exact ⟨by rw [← HFA.out]; rfl, HB.out⟩
set_option maxHeartbeats 1000000 in
set_option maxRecDepth 100000 in
theorem equalFunc_short (A0 : Option Addr) (c0 : Nat) (l0 : List S35) (A1 : Option Addr) (c1 : Nat) (l1 : List S35) (w : World) (hlen : l0.length ≠ l1.length) :
    Calls Tryd.prog 41 #[.slice A0 l0.length c0, .slice A1 l1.length c1, .func (.func 42) #[] #[]] w
      fun e w' => e = .returned (.bool (sameB l0 l1)) ∧ Below w.heap.size w w' := by
  have hne : (l0.length == l1.length) = false := beq_eq_false_iff_ne.2 hlen
  have hnf : ((l0.length : Int) != (l1.length : Int)) = true := by rw [bne_iff_ne]; omega
  have hnn : ((l0.length : Int) == (l1.length : Int)) = false := by rw [beq_eq_false_iff_ne]; omega
  rw [sameB_len l0 l1 hlen]
  clear hlen
  go_enter Tryd.func41, Tryd.ntmps41
  go_wp2
  go_ret
  exact ⟨rfl, Below.refl _ _⟩
def lex_Same.f (l0 : List (S35)) (l1 : List (S35)) : Option Bool := some (sameB l0 l1)
set_option maxHeartbeats 1000000 in
set_option maxRecDepth 100000 in
theorem lex_Same.calls (A0 : Option Addr) (c0 : Nat) (l0 : List (S35)) (A1 : Option Addr) (c1 : Nat) (l1 : List (S35)) (r : Bool) (w : World) (hr0 : Kd.C k35 w A0 l0.length l0) (hc0 : l0.length ≤ c0) (hr1 : Kd.C k35 w A1 l1.length l1) (hc1 : l1.length ≤ c1) (h : lex_Same.f l0 l1 = some r) :
    Calls Tryd.prog 18 #[.slice A0 l0.length c0, .slice A1 l1.length c1] w fun e w' => e = .returned (.bool r) ∧ Below w.heap.size w w' := by
  have e := Option.some.inj h
  have HC : Aside0 (Calls Tryd.prog 41 #[.slice A0 l0.length c0, .slice A1 l1.length c1, .func (.func 42) #[] #[]] w fun e w' => e = .returned (.bool r) ∧ Below w.heap.size w w') := by
    refine ⟨?_⟩
    rw [← e]
    by_cases hlen : l0.length = l1.length
    · exact equalFunc_calls A0 c0 l0 A1 c1 l1 w hr0 hr1 hlen
    · exact equalFunc_short A0 c0 l0 A1 c1 l1 w hlen
  clear h e hr0 hr1
  go_enter Tryd.func18, Tryd.ntmps18
  go_wp2_with (go_at_call 41; refine HC.out.mono ?_; rintro e w' ⟨rfl, hb⟩; have HB := Aside0.mk hb; clear hb)
  go_ret
  exact ⟨rfl, HB.out⟩
end Go.Proofs.YtpgjacoinldfhaaDoor.Q
