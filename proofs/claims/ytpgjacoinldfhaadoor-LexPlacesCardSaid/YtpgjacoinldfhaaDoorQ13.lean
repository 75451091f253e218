/- What some functions of the translation compute, as plain Lean functions, and that the calls compute it. Written by a program of the session, out of the translation, by way of the kit's print; Lean checks it. -/
import Derived.Test.YtpgjacoinldfhaaDoorQ0
import Derived.Test.YtpgjacoinldfhaaDoorQ5
import Derived.Test.YtpgjacoinldfhaaDoorQ6
import Derived.Test.YtpgjacoinldfhaaDoorQ12
import Derived.Test.YtpgjacoinldfhaaDoorHLex
namespace Go.Proofs.YtpgjacoinldfhaaDoor.Q
open Go.RowKit Go.Proofs.YtpgjacoinldfhaaDoorW.PrintWords Go.Proofs.YtpgjacoinldfhaaDoorW.PrintLast Go.Proofs.YtpgjacoinldfhaaDoorW.PrintMore
attribute [local go_sem] max2_int min2_int max_two min_two max_three min_three max_four min_four   -- for this text's walks alone
set_option linter.unusedVariables false
set_option linter.unusedSimpArgs false

/-! ### testamurlaw09_LexPlaces: function 6 -/
mutual
def testamurlaw09_LexPlaces.l0 : Nat → ByteArray → List (S35) → Int → Int → Option (Bool)
  | 0, _, _, _, _ => none
  | k + 1, x0, x3, x6, x7 => if x7 ≤ (x3.length : Int) then (if x7 < (x3.length : Int) then (if 0 ≤ x7 then (testamurlaw09_LexPlaces.j1 k x0 x3 x6 x7 ((rd_T35 x3 x7).f3)) else (none)) else (testamurlaw09_LexPlaces.j1 k x0 x3 x6 x7 (x0.size : Int))) else (some true)
def testamurlaw09_LexPlaces.j1 : Nat → ByteArray → List (S35) → Int → Int → Int → Option (Bool)
  | 0, _, _, _, _, _ => none
  | k + 1, x0, x3, x6, x7, x8 => if x8 < x6 then (testamurlaw09_LexPlaces.j2 k x0 x3 x6 x7 x8 true) else (testamurlaw09_LexPlaces.j2 k x0 x3 x6 x7 x8 (decide (x8 > (x0.size : Int))))
def testamurlaw09_LexPlaces.j2 : Nat → ByteArray → List (S35) → Int → Int → Int → Bool → Option (Bool)
  | 0, _, _, _, _, _, _ => none
  | k + 1, x0, x3, x6, x7, x8, x52 => if x52 = true then (some false) else (testamurlaw09_LexPlaces.l1 k x0 x3 x6 x7 x8 false)
def testamurlaw09_LexPlaces.l1 : Nat → ByteArray → List (S35) → Int → Int → Int → Bool → Option (Bool)
  | 0, _, _, _, _, _, _ => none
  | k + 1, x0, x3, x6, x7, x8, x9 => if x6 < x8 then (if 0 ≤ x6 then (if x6 < (x0.size : Int) then (if (bt x0 x6) = 10 then ((testamurref09_Space.f (bt x0 x6)).bind fun t292 => (if t292 = true then (testamurlaw09_LexPlaces.l1 k x0 x3 (wrap64 (x6 + 1)) x7 x8 false) else (some false))) else (if x9 = true then (testamurlaw09_LexPlaces.l1 k x0 x3 (wrap64 (x6 + 1)) x7 x8 true) else (if (bt x0 x6) = 47 then (if (wrap64 (x6 + 1)) < x8 then (if 0 ≤ (wrap64 (x6 + 1)) then (if (wrap64 (x6 + 1)) < (x0.size : Int) then (if ((bt x0 (wrap64 (x6 + 1))) = 47) then (testamurlaw09_LexPlaces.l1 k x0 x3 (wrap64 (x6 + 1)) x7 x8 ((bt x0 (wrap64 (x6 + 1))) == 47)) else ((testamurref09_Space.f (bt x0 x6)).bind fun t293 => (if t293 = true then (testamurlaw09_LexPlaces.l1 k x0 x3 (wrap64 (x6 + 1)) x7 x8 ((bt x0 (wrap64 (x6 + 1))) == 47)) else (some false)))) else (none)) else (none)) else ((testamurref09_Space.f (bt x0 x6)).bind fun t294 => (if t294 = true then (testamurlaw09_LexPlaces.l1 k x0 x3 (wrap64 (x6 + 1)) x7 x8 false) else (some false)))) else ((testamurref09_Space.f (bt x0 x6)).bind fun t295 => (if t295 = true then (testamurlaw09_LexPlaces.l1 k x0 x3 (wrap64 (x6 + 1)) x7 x8 false) else (some false)))))) else (none)) else (none)) else (if x7 = (x3.length : Int) then (some true) else (if 0 ≤ x7 then (if x7 < (x3.length : Int) then ((testamurlaw09_spelled.f k ((rd_T35 x3 x7).f0) ((rd_T35 x3 x7).f1) ((rd_T35 x3 x7).f2) ((rd_T35 x3 x7).f3)).bind fun t297 => (if x9 = true then (some false) else (if (t297.size : Int) = 0 then (some false) else (if (wrap64 (x6 + (t297.size : Int))) > (x0.size : Int) then (some false) else (if 0 ≤ x6 then (if x6 ≤ (wrap64 (x6 + (t297.size : Int))) then (if (wrap64 (x6 + (t297.size : Int))) ≤ (x0.size : Int) then (if (x0.extract (x6 : Int).toNat ((wrap64 (x6 + (t297.size : Int))) : Int).toNat).toList = t297.toList then (testamurlaw09_LexPlaces.l0 k x0 x3 (wrap64 (x6 + (t297.size : Int))) (wrap64 (x7 + 1))) else (some false)) else (none)) else (none)) else (none)))))) else (none)) else (none)))
end
def testamurlaw09_LexPlaces.f (k : Nat) (a0 : ByteArray) : Option (Bool) := (testamurlaw09_sane.f k).bind fun t285 => (if t285 = true then (if (a0.size : Int) > 3000 then (some true) else ((lex_Lex.f a0).bind fun bt286 => (if bt286.2.2 = 0 then (testamurlaw09_LexPlaces.l0 k a0 bt286.1 0 0) else (some ((bt286.1.length : Int) == 0))))) else (some false))
theorem testamurlaw09_LexPlaces.mono_l : ∀ k, (∀ y0 y1 y2 y3, LeO (testamurlaw09_LexPlaces.l0 k y0 y1 y2 y3) (testamurlaw09_LexPlaces.l0 (k + 1) y0 y1 y2 y3)) ∧ (∀ y0 y1 y2 y3 y4, LeO (testamurlaw09_LexPlaces.j1 k y0 y1 y2 y3 y4) (testamurlaw09_LexPlaces.j1 (k + 1) y0 y1 y2 y3 y4)) ∧ (∀ y0 y1 y2 y3 y4 y5, LeO (testamurlaw09_LexPlaces.j2 k y0 y1 y2 y3 y4 y5) (testamurlaw09_LexPlaces.j2 (k + 1) y0 y1 y2 y3 y4 y5)) ∧ (∀ y0 y1 y2 y3 y4 y5, LeO (testamurlaw09_LexPlaces.l1 k y0 y1 y2 y3 y4 y5) (testamurlaw09_LexPlaces.l1 (k + 1) y0 y1 y2 y3 y4 y5))
  | 0 => ⟨fun _ _ _ _ r h => by simp [testamurlaw09_LexPlaces.l0] at h, fun _ _ _ _ _ r h => by simp [testamurlaw09_LexPlaces.j1] at h, fun _ _ _ _ _ _ r h => by simp [testamurlaw09_LexPlaces.j2] at h, fun _ _ _ _ _ _ r h => by simp [testamurlaw09_LexPlaces.l1] at h⟩
  | k + 1 => by
    obtain ⟨ih0, ih1, ih2, ih3⟩ := testamurlaw09_LexPlaces.mono_l k
    refine ⟨?_, ?_, ?_, ?_⟩
    · intro y0 y1 y2 y3
      unfold testamurlaw09_LexPlaces.l0
      repeat' first
      | (with_reducible exact ih0 _ _ _ _)
      | (with_reducible exact ih1 _ _ _ _ _)
      | (with_reducible exact ih2 _ _ _ _ _ _)
      | (with_reducible exact ih3 _ _ _ _ _ _)
      | (with_reducible exact testamurlaw09_sane.mono _)
      | (with_reducible exact testamurlaw09_spelled.mono _ _ _ _ _)
      | (with_reducible exact LeO.refl _)
      | (with_reducible exact LeO.none _)
      | (with_reducible refine LeO.ite ?_ ?_)
      | (with_reducible refine LeO.bind ?_ (fun _ => ?_))
      | exact ih0 _ _ _ _
      | exact ih1 _ _ _ _ _
      | exact ih2 _ _ _ _ _ _
      | exact ih3 _ _ _ _ _ _
      | exact testamurlaw09_sane.mono _
      | exact testamurlaw09_spelled.mono _ _ _ _ _
      | exact LeO.none _
      | refine LeO.ite ?_ ?_
      | refine LeO.bind ?_ (fun _ => ?_)
    · intro y0 y1 y2 y3 y4
      unfold testamurlaw09_LexPlaces.j1
      repeat' first
      | (with_reducible exact ih0 _ _ _ _)
      | (with_reducible exact ih1 _ _ _ _ _)
      | (with_reducible exact ih2 _ _ _ _ _ _)
      | (with_reducible exact ih3 _ _ _ _ _ _)
      | (with_reducible exact testamurlaw09_sane.mono _)
      | (with_reducible exact testamurlaw09_spelled.mono _ _ _ _ _)
      | (with_reducible exact LeO.refl _)
      | (with_reducible exact LeO.none _)
      | (with_reducible refine LeO.ite ?_ ?_)
      | (with_reducible refine LeO.bind ?_ (fun _ => ?_))
      | exact ih0 _ _ _ _
      | exact ih1 _ _ _ _ _
      | exact ih2 _ _ _ _ _ _
      | exact ih3 _ _ _ _ _ _
      | exact testamurlaw09_sane.mono _
      | exact testamurlaw09_spelled.mono _ _ _ _ _
      | exact LeO.none _
      | refine LeO.ite ?_ ?_
      | refine LeO.bind ?_ (fun _ => ?_)
    · intro y0 y1 y2 y3 y4 y5
      unfold testamurlaw09_LexPlaces.j2
      repeat' first
      | (with_reducible exact ih0 _ _ _ _)
      | (with_reducible exact ih1 _ _ _ _ _)
      | (with_reducible exact ih2 _ _ _ _ _ _)
      | (with_reducible exact ih3 _ _ _ _ _ _)
      | (with_reducible exact testamurlaw09_sane.mono _)
      | (with_reducible exact testamurlaw09_spelled.mono _ _ _ _ _)
      | (with_reducible exact LeO.refl _)
      | (with_reducible exact LeO.none _)
      | (with_reducible refine LeO.ite ?_ ?_)
      | (with_reducible refine LeO.bind ?_ (fun _ => ?_))
      | exact ih0 _ _ _ _
      | exact ih1 _ _ _ _ _
      | exact ih2 _ _ _ _ _ _
      | exact ih3 _ _ _ _ _ _
      | exact testamurlaw09_sane.mono _
      | exact testamurlaw09_spelled.mono _ _ _ _ _
      | exact LeO.none _
      | refine LeO.ite ?_ ?_
      | refine LeO.bind ?_ (fun _ => ?_)
    · intro y0 y1 y2 y3 y4 y5
      unfold testamurlaw09_LexPlaces.l1
      repeat' first
      | (with_reducible exact ih0 _ _ _ _)
      | (with_reducible exact ih1 _ _ _ _ _)
      | (with_reducible exact ih2 _ _ _ _ _ _)
      | (with_reducible exact ih3 _ _ _ _ _ _)
      | (with_reducible exact testamurlaw09_sane.mono _)
      | (with_reducible exact testamurlaw09_spelled.mono _ _ _ _ _)
      | (with_reducible exact LeO.refl _)
      | (with_reducible exact LeO.none _)
      | (with_reducible refine LeO.ite ?_ ?_)
      | (with_reducible refine LeO.bind ?_ (fun _ => ?_))
      | exact ih0 _ _ _ _
      | exact ih1 _ _ _ _ _
      | exact ih2 _ _ _ _ _ _
      | exact ih3 _ _ _ _ _ _
      | exact testamurlaw09_sane.mono _
      | exact testamurlaw09_spelled.mono _ _ _ _ _
      | exact LeO.none _
      | refine LeO.ite ?_ ?_
      | refine LeO.bind ?_ (fun _ => ?_)
theorem testamurlaw09_LexPlaces.mono : ∀ a0 k, LeO (testamurlaw09_LexPlaces.f k a0) (testamurlaw09_LexPlaces.f (k + 1) a0) := by
  intro a0 k
  obtain ⟨ih0, ih1, ih2, ih3⟩ := testamurlaw09_LexPlaces.mono_l k
  unfold testamurlaw09_LexPlaces.f
  repeat' first
      | (with_reducible exact ih0 _ _ _ _)
      | (with_reducible exact ih1 _ _ _ _ _)
      | (with_reducible exact ih2 _ _ _ _ _ _)
      | (with_reducible exact ih3 _ _ _ _ _ _)
      | (with_reducible exact testamurlaw09_sane.mono _)
      | (with_reducible exact testamurlaw09_spelled.mono _ _ _ _ _)
      | (with_reducible exact LeO.refl _)
      | (with_reducible exact LeO.none _)
      | (with_reducible refine LeO.ite ?_ ?_)
      | (with_reducible refine LeO.bind ?_ (fun _ => ?_))
      | exact ih0 _ _ _ _
      | exact ih1 _ _ _ _ _
      | exact ih2 _ _ _ _ _ _
      | exact ih3 _ _ _ _ _ _
      | exact testamurlaw09_sane.mono _
      | exact testamurlaw09_spelled.mono _ _ _ _ _
      | exact LeO.none _
      | refine LeO.ite ?_ ?_
      | refine LeO.bind ?_ (fun _ => ?_)
set_option maxHeartbeats 8000000 in
set_option maxRecDepth 100000 in
theorem testamurlaw09_LexPlaces.calls (k : Nat) (a0 : ByteArray) (r : Bool) (w : World) (hL_ : Laid w) (h : testamurlaw09_LexPlaces.f k a0 = some r) :
    Calls Tryd.prog 6 #[.string a0] w fun e w' => e = .returned (.bool r) ∧ Below w.heap.size w w' := by
  have HLAID := Aside0.mk hL_
  clear hL_
  have hu35 := Tryd.underlying35
  have HB := Aside0.mk (Below.refl w.heap.size w)
  have H : ((testamurlaw09_sane.f k).bind fun t285 => (if t285 = true then (if (a0.size : Int) > 3000 then (some true) else ((lex_Lex.f a0).bind fun bt286 => (if bt286.2.2 = 0 then (testamurlaw09_LexPlaces.l0 k a0 bt286.1 0 0) else (some ((bt286.1.length : Int) == 0))))) else (some false))) = some r := h
  clear h
  replace H := Option.bind_eq_some_iff.mp H
  obtain ⟨t285, A20, H⟩ := H
  replace H : (if t285 = true then (if (a0.size : Int) > 3000 then (some true) else ((lex_Lex.f a0).bind fun bt286 => (if bt286.2.2 = 0 then (testamurlaw09_LexPlaces.l0 k a0 bt286.1 0 0) else (some ((bt286.1.length : Int) == 0))))) else (some false)) = some r := H
  have A2 := Aside0.mk A20
  clear A20
  by_cases c3 : t285 = true
  · subst c3
    have H1 : (if (a0.size : Int) > 3000 then (some true) else ((lex_Lex.f a0).bind fun bt286 => (if bt286.2.2 = 0 then (testamurlaw09_LexPlaces.l0 k a0 bt286.1 0 0) else (some ((bt286.1.length : Int) == 0))))) = some r := by rw [if_pos rfl] at H; exact H
    clear H
    have H := H1
    clear H1
    by_cases c4 : (a0.size : Int) > 3000
    · rw [if_pos c4] at H
      have c4b0 : decide (3000 < (a0.size : Int)) = true := decide_eq_true c4
      have c4b1 : decide (3000 < a0.size) = true := decide_eq_true (by omega)
      clear c4
      obtain rfl := Option.some.inj H
      go_enter Tryd.func6, Tryd.ntmps6
      go_wp2_with (first | ((with_reducible refine gate_callee (f := 11) rfl ?_); refine goesL_ (some 11) rfl rfl Tryd.func11 (by kernel_rfl) rfl #[] rfl (by (try simp only [List.map_toArray, List.map_cons, List.map_nil]); first | done | rfl | (simp only [List.length_drop, List.length_take]; rfl)) ?_; (with_reducible refine (testamurlaw09_sane.calls k  true _ ?side1 A2.out).mono ?_); (case side1 => exact Laid.below HLAID.out (by repeat (first | (with_reducible first | exact HB.out | apply below_alloc | apply pw_below_drewN | apply below_drew1) | exact HB.out))); rintro e w5 ⟨rfl, hb⟩; refine ⟨_, rfl, ?_⟩; have n0_ := Aside0.mk (below_step (by repeat (first | (with_reducible first | exact HB.out | apply below_alloc | apply pw_below_drewN | apply below_drew1) | exact HB.out)) hb); clear HB; have HB := n0_; clear n0_; (try clear hb); (try clear hb2); (try clear hk); (try clear hi)))
      go_ret
      exact ⟨by first | rfl | (simp [errW_none, errW_some] <;> rfl) | (simp [*, errW_none, errW_some] <;> rfl), by repeat (first | (with_reducible first | exact HB.out | apply below_alloc | apply pw_below_drewN | apply below_drew1) | exact HB.out)⟩
    · rw [if_neg c4] at H
      have c4b0 : decide (3000 < (a0.size : Int)) = false := decide_eq_false c4
      have c4b1 : decide (3000 < a0.size) = false := decide_eq_false (by omega)
      clear c4
      replace H := Option.bind_eq_some_iff.mp H
      obtain ⟨⟨t286, t287, t288⟩, A60, H⟩ := H
      replace H : (if t288 = 0 then (testamurlaw09_LexPlaces.l0 k a0 t286 0 0) else (some ((t286.length : Int) == 0))) = some r := H
      have A6 := Aside0.mk A60
      clear A60
      by_cases c7 : t288 = 0
      · rw [if_pos c7] at H
        have c7b0 : (t288 == 0) = true := beq_iff_eq.mpr c7
        have c7b1 : (t288 != 0) = false := bne_eq_false_iff_eq.mpr c7
        clear c7
        have H' := Aside0.mk H
        clear H
        go_enter Tryd.func6, Tryd.ntmps6
        go_wp2_with (first | ((with_reducible refine gate_callee (f := 11) rfl ?_); refine goesL_ (some 11) rfl rfl Tryd.func11 (by kernel_rfl) rfl #[] rfl (by (try simp only [List.map_toArray, List.map_cons, List.map_nil]); first | done | rfl | (simp only [List.length_drop, List.length_take]; rfl)) ?_; (with_reducible refine (testamurlaw09_sane.calls k  true _ ?side1 A2.out).mono ?_); (case side1 => exact Laid.below HLAID.out (by repeat (first | (with_reducible first | exact HB.out | apply below_alloc | apply pw_below_drewN | apply below_drew1) | exact HB.out))); rintro e w8 ⟨rfl, hb⟩; refine ⟨_, rfl, ?_⟩; have n0_ := Aside0.mk (below_step (by repeat (first | (with_reducible first | exact HB.out | apply below_alloc | apply pw_below_drewN | apply below_drew1) | exact HB.out)) hb); clear HB; have HB := n0_; clear n0_; (try clear hb); (try clear hb2); (try clear hk); (try clear hi)) | ((with_reducible refine gate_callee (f := 12) rfl ?_); refine goesL_ (some 18) rfl rfl Tryd.func12 (by kernel_rfl) rfl #[.string a0] rfl (by (try simp only [List.map_toArray, List.map_cons, List.map_nil]); first | done | rfl | (simp only [List.length_drop, List.length_take]; rfl)) ?_; (with_reducible refine (lex_Lex.calls a0 t286 t287 t288 _ ?side1 A6.out).mono ?_); (case side1 => exact Laid.below HLAID.out (by repeat (first | (with_reducible first | exact HB.out | apply below_alloc | apply pw_below_drewN | apply below_drew1) | exact HB.out))); rintro e w9 ⟨v289, rfl, ho0, hb⟩; refine ⟨_, rfl, ?_⟩; have n0_ := Aside0.mk (Kd.R_lower ho0 (below_size (by repeat (first | (with_reducible first | exact HB.out | apply below_alloc | apply pw_below_drewN | apply below_drew1) | exact HB.out)))); have n1_ := Aside0.mk (below_step (by repeat (first | (with_reducible first | exact HB.out | apply below_alloc | apply pw_below_drewN | apply below_drew1) | exact HB.out)) hb); clear HB; have HO290 := n0_; have HB := n1_; clear n0_ n1_; (try clear hb); (try clear hb2); (try clear hk); (try clear hi); (try clear ho0)))
        (try simp only [Act.put, List.setIfInBounds_toArray, List.set_cons_zero, List.set_cons_succ])
        go_loopg [6, 7] k (fun kq v6 v7 w' => ∃ (x6_1 : Int) (x7_1 : Int), v6 = .int .i64 x6_1 ∧ v7 = .int .i64 x7_1 ∧ Aside0 (testamurlaw09_LexPlaces.l0 kq a0 t286 x6_1 x7_1 = some r) ∧ Aside0 (kq ≤ k) ∧ Aside0 (Kd.R k35 35 w' w.heap.size (fun _ => True) v289 t286) ∧ Aside0 (Below w.heap.size w w'))
        case atStart => exact ⟨(0), (0), (by first | rfl | (simp; done) | (simp [*]; done)), (by first | rfl | (simp; done) | (simp [*]; done)), H', ⟨Nat.le_refl _⟩, ⟨by (with_reducible repeat (first | apply Kd.R_alloc | apply Kd.R_drewN | apply Kd.R_drew)); exact HO290.out⟩, ⟨by repeat (first | (with_reducible first | exact HB.out | apply below_alloc | apply pw_below_drewN | apply below_drew1) | exact HB.out)⟩⟩
        case round =>
          clear H'
          try clear c1
          try clear p2
          try clear c3
          try clear c4
          try clear c4b0
          try clear c4b1
          try clear c6
          try clear c7
          try clear c7b0
          try clear c7b1
          obtain ⟨x6_1, x7_1, rfl, rfl, HA, HK1, HO_3, HB⟩ := hrel
          cases gk with
          | zero => exact absurd HA.out (by simp [testamurlaw09_LexPlaces.l0])
          | succ k1 =>
            have H := HA.out
            clear HA
            simp only [testamurlaw09_LexPlaces.l0] at H
            by_cases c10 : x7_1 ≤ (t286.length : Int)
            · rw [if_pos c10] at H
              have c10b0 : decide (x7_1 ≤ (t286.length : Int)) = true := decide_eq_true c10
              clear c10
              have HC11 := Aside0.mk H
              clear H
              obtain ⟨Ao12, co12, eo12⟩ := Kd.R_slice HO_3.out
              subst eo12
              go_upto_if 38 with (fail)
              go_cut [8] (fun v8 wc => ∃ (kq : Nat) (x8_10 : Int), v8 = .int .i64 x8_10 ∧ Aside0 (testamurlaw09_LexPlaces.j1 kq a0 t286 x6_1 x7_1 x8_10 = some r) ∧ Aside0 (kq ≤ k1) ∧ Aside0 (Kd.R k35 35 wc w.heap.size (fun _ => True) (.slice Ao12 t286.length co12) t286) ∧ Aside0 (Below w.heap.size w wc))
              case first =>
                have H := HC11.out
                clear HC11
                by_cases c13 : x7_1 < (t286.length : Int)
                · rw [if_pos c13] at H
                  have c13b0 : decide (x7_1 < (t286.length : Int)) = true := decide_eq_true c13
                  clear c13
                  (first | rw [c13b0] | (simp only [i64_w, i32_w]; rw [c13b0]) | skip)
                  by_cases c14 : 0 ≤ x7_1
                  · rw [if_pos c14] at H
                    have c14b0 : decide (0 ≤ x7_1) = true := decide_eq_true c14
                    clear c14
                    have H' := Aside0.mk H
                    clear H
                    have p291 : 0 ≤ (x7_1 : Int) := of_decide_eq_true (by first | (with_reducible assumption) | assumption)
                    have q291 : x7_1 < (t286.length : Int) := of_decide_eq_true (by first | (with_reducible assumption) | assumption)
                    obtain ⟨ad291, e291, hx291_0, hx291_1, hx291_2, hx291_3⟩ := at_T35 (Kd.R_reads' HO_3.out).2.2 x7_1 p291 q291
                    cases e291
                    replace p291 := eq_true p291
                    replace q291 := eq_true q291
                    go_wp2
                    go_meet
                    case rel => exact ⟨_, ((rd_T35 t286 x7_1).f3), (by first | rfl | (simp; done) | (simp [*]; done)), H', ⟨by have := HK1.out; first | omega | exact Nat.le_refl _⟩, ⟨by (with_reducible repeat (first | apply Kd.R_alloc | apply Kd.R_drewN | apply Kd.R_drew)); exact HO_3.out⟩, ⟨by repeat (first | (with_reducible first | exact HB.out | apply below_alloc | apply pw_below_drewN | apply below_drew1) | exact HB.out)⟩⟩
                  · rw [if_neg c14] at H
                    exact absurd H (by simp)
                · rw [if_neg c13] at H
                  have c13b0 : decide (x7_1 < (t286.length : Int)) = false := decide_eq_false c13
                  clear c13
                  (first | rw [c13b0] | (simp only [i64_w, i32_w]; rw [c13b0]) | skip)
                  have H' := Aside0.mk H
                  clear H
                  go_wp2
                  go_meet
                  case rel => exact ⟨_, ((a0.size : Int)), (by first | rfl | (simp; done) | (simp [*]; done)), H', ⟨by have := HK1.out; first | omega | exact Nat.le_refl _⟩, ⟨by (with_reducible repeat (first | apply Kd.R_alloc | apply Kd.R_drewN | apply Kd.R_drew)); exact HO_3.out⟩, ⟨by repeat (first | (with_reducible first | exact HB.out | apply below_alloc | apply pw_below_drewN | apply below_drew1) | exact HB.out)⟩⟩
              case rest =>
                clear HC11
                try clear c1
                try clear p2
                try clear q2
                try clear hx2
                try clear c3
                try clear c4
                try clear c4b0
                try clear c4b1
                try clear c6
                try clear c7
                try clear c7b0
                try clear c7b1
                try clear c10
                try clear c10b0
                try clear c11
                try clear c12
                try clear c13
                try clear c13b0
                try clear c14
                try clear c14b0
                try clear hx291_0
                try clear hx291_1
                try clear hx291_2
                try clear hx291_3
                try clear p2
                try clear p291
                try clear q291
                obtain ⟨kq, x8_10, rfl, HA, HJ10, HO_3, HB⟩ := hcut
                cases kq with
                | zero => exact absurd HA.out (by simp [testamurlaw09_LexPlaces.j1])
                | succ kj10 =>
                  have H := HA.out
                  clear HA
                  simp only [testamurlaw09_LexPlaces.j1] at H
                  have HC15 := Aside0.mk H
                  clear H
                  go_upto_region 15 with (fail)
                  go_cut [52] (fun v52 wc => ∃ (kq : Nat) (x52_14 : Bool), v52 = .bool x52_14 ∧ Aside0 (testamurlaw09_LexPlaces.j2 kq a0 t286 x6_1 x7_1 x8_10 x52_14 = some r) ∧ Aside0 (kq ≤ kj10) ∧ Aside0 (Kd.R k35 35 wc w.heap.size (fun _ => True) (.slice Ao12 t286.length co12) t286) ∧ Aside0 (Below w.heap.size w wc))
                  case first =>
                    have H := HC15.out
                    clear HC15
                    by_cases c16 : x8_10 < x6_1
                    · rw [if_pos c16] at H
                      have c16b0 : decide (x8_10 < x6_1) = true := decide_eq_true c16
                      clear c16
                      (first | rw [c16b0] | (simp only [i64_w, i32_w]; rw [c16b0]) | skip)
                      have H' := Aside0.mk H
                      clear H
                      go_wp2
                      go_meet
                      case rel => exact ⟨_, (true), (by first | rfl | (simp; done) | (simp [*]; done)), H', ⟨by have := HK1.out; have := HJ10.out; first | omega | exact Nat.le_refl _⟩, ⟨by (with_reducible repeat (first | apply Kd.R_alloc | apply Kd.R_drewN | apply Kd.R_drew)); exact HO_3.out⟩, ⟨by repeat (first | (with_reducible first | exact HB.out | apply below_alloc | apply pw_below_drewN | apply below_drew1) | exact HB.out)⟩⟩
                    · rw [if_neg c16] at H
                      have c16b0 : decide (x8_10 < x6_1) = false := decide_eq_false c16
                      clear c16
                      (first | rw [c16b0] | (simp only [i64_w, i32_w]; rw [c16b0]) | skip)
                      have H' := Aside0.mk H
                      clear H
                      go_wp2
                      go_meet
                      case rel => exact ⟨_, (decide (x8_10 > (a0.size : Int))), (by first | rfl | (simp; done) | (simp [*]; done)), H', ⟨by have := HK1.out; have := HJ10.out; first | omega | exact Nat.le_refl _⟩, ⟨by (with_reducible repeat (first | apply Kd.R_alloc | apply Kd.R_drewN | apply Kd.R_drew)); exact HO_3.out⟩, ⟨by repeat (first | (with_reducible first | exact HB.out | apply below_alloc | apply pw_below_drewN | apply below_drew1) | exact HB.out)⟩⟩
                  case rest =>
                    clear HC15
                    try clear c1
                    try clear p2
                    try clear q2
                    try clear hx2
                    try clear c3
                    try clear c4
                    try clear c4b0
                    try clear c4b1
                    try clear c6
                    try clear c7
                    try clear c7b0
                    try clear c7b1
                    try clear c10
                    try clear c10b0
                    try clear c11
                    try clear c12
                    try clear c13
                    try clear c13b0
                    try clear c14
                    try clear c14b0
                    try clear c16
                    try clear c16b0
                    try clear hx291_0
                    try clear hx291_1
                    try clear hx291_2
                    try clear hx291_3
                    try clear p2
                    try clear p291
                    try clear q2
                    try clear q291
                    obtain ⟨kq, x52_14, rfl, HA, HJ14, HO_3, HB⟩ := hcut
                    cases kq with
                    | zero => exact absurd HA.out (by simp [testamurlaw09_LexPlaces.j2])
                    | succ kj14 =>
                      have H := HA.out
                      clear HA
                      simp only [testamurlaw09_LexPlaces.j2] at H
                      by_cases c17 : x52_14 = true
                      · subst c17
                        have H1 : (some false) = some r := by rw [if_pos rfl] at H; exact H
                        clear H
                        have H := H1
                        clear H1
                        obtain rfl := Option.some.inj H
                        go_wp2
                        go_ret
                        exact ⟨by first | rfl | (simp [errW_none, errW_some] <;> rfl) | (simp [*, errW_none, errW_some] <;> rfl), by repeat (first | (with_reducible first | exact HB.out | apply below_alloc | apply pw_below_drewN | apply below_drew1) | exact HB.out)⟩
                      · replace c17 := Bool.eq_false_iff.mpr c17
                        subst c17
                        have H1 : (testamurlaw09_LexPlaces.l1 kj14 a0 t286 x6_1 x7_1 x8_10 false) = some r := by rw [if_neg (show ¬ (false = true) by decide)] at H; exact H
                        clear H
                        have H := H1
                        clear H1
                        have H' := Aside0.mk H
                        clear H
                        go_wp2
                        go_loopg [6, 9] kj14 (fun kq v6 v9 w' => ∃ (x6_4 : Int) (x9_4 : Bool), v6 = .int .i64 x6_4 ∧ v9 = .bool x9_4 ∧ Aside0 (testamurlaw09_LexPlaces.l1 kq a0 t286 x6_4 x7_1 x8_10 x9_4 = some r) ∧ Aside0 (kq ≤ kj14) ∧ Aside0 (Kd.R k35 35 w' w.heap.size (fun _ => True) (.slice Ao12 t286.length co12) t286) ∧ Aside0 (Below w.heap.size w w'))
                        case atStart => exact ⟨(x6_1), (false), (by first | rfl | (simp; done) | (simp [*]; done)), (by first | rfl | (simp; done) | (simp [*]; done)), H', ⟨Nat.le_refl _⟩, ⟨by (with_reducible repeat (first | apply Kd.R_alloc | apply Kd.R_drewN | apply Kd.R_drew)); exact HO_3.out⟩, ⟨by repeat (first | (with_reducible first | exact HB.out | apply below_alloc | apply pw_below_drewN | apply below_drew1) | exact HB.out)⟩⟩
                        case round =>
                          clear H'
                          try clear c1
                          try clear p2
                          try clear q2
                          try clear hx2
                          try clear c3
                          try clear c4
                          try clear c4b0
                          try clear c4b1
                          try clear c6
                          try clear c7
                          try clear c7b0
                          try clear c7b1
                          try clear c10
                          try clear c10b0
                          try clear c11
                          try clear c12
                          try clear c13
                          try clear c13b0
                          try clear c14
                          try clear c14b0
                          try clear c16
                          try clear c16b0
                          try clear c17
                          try clear hx291_0
                          try clear hx291_1
                          try clear hx291_2
                          try clear hx291_3
                          try clear p2
                          try clear p291
                          try clear q2
                          try clear q291
                          obtain ⟨x6_4, x9_4, rfl, rfl, HA, HK4, HO_3, HB⟩ := hrel
                          cases gk with
                          | zero => exact absurd HA.out (by simp [testamurlaw09_LexPlaces.l1])
                          | succ k4 =>
                            have H := HA.out
                            clear HA
                            simp only [testamurlaw09_LexPlaces.l1] at H
                            by_cases c18 : x6_4 < x8_10
                            · rw [if_pos c18] at H
                              have c18b0 : decide (x6_4 < x8_10) = true := decide_eq_true c18
                              clear c18
                              by_cases c19 : 0 ≤ x6_4
                              · rw [if_pos c19] at H
                                have c19b0 : decide (0 ≤ x6_4) = true := decide_eq_true c19
                                clear c19
                                by_cases c20 : x6_4 < (a0.size : Int)
                                · rw [if_pos c20] at H
                                  have c20b0 : decide (x6_4 < (a0.size : Int)) = true := decide_eq_true c20
                                  clear c20
                                  by_cases c22 : (bt a0 x6_4) = 10
                                  · rw [if_pos c22] at H
                                    have c22b0 : ((bt a0 x6_4) == 10) = true := beq_iff_eq.mpr c22
                                    have c22b1 : ((bt a0 x6_4) != 10) = false := bne_eq_false_iff_eq.mpr c22
                                    clear c22
                                    replace H := Option.bind_eq_some_iff.mp H
                                    obtain ⟨t292, A240, H⟩ := H
                                    replace H : (if t292 = true then (testamurlaw09_LexPlaces.l1 k4 a0 t286 (wrap64 (x6_4 + 1)) x7_1 x8_10 false) else (some false)) = some r := H
                                    have A24 := Aside0.mk A240
                                    clear A240
                                    by_cases c25 : t292 = true
                                    · subst c25
                                      have H1 : (testamurlaw09_LexPlaces.l1 k4 a0 t286 (wrap64 (x6_4 + 1)) x7_1 x8_10 false) = some r := by rw [if_pos rfl] at H; exact H
                                      clear H
                                      have H := H1
                                      clear H1
                                      have H' := Aside0.mk H
                                      clear H
                                      have p21 : 0 ≤ (x6_4 : Int) := of_decide_eq_true (by first | (with_reducible assumption) | assumption)
                                      have q21 : x6_4 < (a0.size : Int) := of_decide_eq_true (by first | (with_reducible assumption) | assumption)
                                      have hx21 := bt_at a0 x6_4
                                      replace p21 := eq_true p21
                                      replace q21 := eq_true q21
                                      have p23 : 0 ≤ (x6_4 : Int) := of_decide_eq_true (by first | (with_reducible assumption) | assumption)
                                      have q23 : x6_4 < (a0.size : Int) := of_decide_eq_true (by first | (with_reducible assumption) | assumption)
                                      have hx23 := bt_at a0 x6_4
                                      replace p23 := eq_true p23
                                      replace q23 := eq_true q23
                                      go_wp2_with (first | (go_at_call 22; (with_reducible refine (testamurref09_Space.calls (bt a0 x6_4) true _ A24.out).mono ?_); rintro e w' ⟨rfl, ⟨nd, rfl⟩⟩))
                                      go_roundg k4
                                      case measure => have := HK1.out; have := HJ10.out; have := HJ14.out; have := HK4.out; omega
                                      case rel => exact ⟨(wrap64 (x6_4 + 1)), (false), (by first | rfl | (simp; done) | (simp [*]; done)), (by first | rfl | (simp; done) | (simp [*]; done)), H', ⟨by have := HK1.out; have := HJ10.out; have := HJ14.out; have := HK4.out; omega⟩, ⟨by (with_reducible repeat (first | apply Kd.R_alloc | apply Kd.R_drewN | apply Kd.R_drew)); exact HO_3.out⟩, ⟨by repeat (first | (with_reducible first | exact HB.out | apply below_alloc | apply pw_below_drewN | apply below_drew1) | exact HB.out)⟩⟩
                                    · replace c25 := Bool.eq_false_iff.mpr c25
                                      subst c25
                                      have H1 : (some false) = some r := by rw [if_neg (show ¬ (false = true) by decide)] at H; exact H
                                      clear H
                                      have H := H1
                                      clear H1
                                      obtain rfl := Option.some.inj H
                                      have p21 : 0 ≤ (x6_4 : Int) := of_decide_eq_true (by first | (with_reducible assumption) | assumption)
                                      have q21 : x6_4 < (a0.size : Int) := of_decide_eq_true (by first | (with_reducible assumption) | assumption)
                                      have hx21 := bt_at a0 x6_4
                                      replace p21 := eq_true p21
                                      replace q21 := eq_true q21
                                      have p23 : 0 ≤ (x6_4 : Int) := of_decide_eq_true (by first | (with_reducible assumption) | assumption)
                                      have q23 : x6_4 < (a0.size : Int) := of_decide_eq_true (by first | (with_reducible assumption) | assumption)
                                      have hx23 := bt_at a0 x6_4
                                      replace p23 := eq_true p23
                                      replace q23 := eq_true q23
                                      go_wp2_with (first | (go_at_call 22; (with_reducible refine (testamurref09_Space.calls (bt a0 x6_4) false _ A24.out).mono ?_); rintro e w' ⟨rfl, ⟨nd, rfl⟩⟩))
                                      go_ret
                                      exact ⟨by first | rfl | (simp [errW_none, errW_some] <;> rfl) | (simp [*, errW_none, errW_some] <;> rfl), by repeat (first | (with_reducible first | exact HB.out | apply below_alloc | apply pw_below_drewN | apply below_drew1) | exact HB.out)⟩
                                  · rw [if_neg c22] at H
                                    have c22b0 : ((bt a0 x6_4) == 10) = false := beq_eq_false_iff_ne.mpr c22
                                    have c22b1 : ((bt a0 x6_4) != 10) = true := bne_iff_ne.mpr c22
                                    by_cases c26 : x9_4 = true
                                    · subst c26
                                      have H1 : (testamurlaw09_LexPlaces.l1 k4 a0 t286 (wrap64 (x6_4 + 1)) x7_1 x8_10 true) = some r := by rw [if_pos rfl] at H; exact H
                                      clear H
                                      have H := H1
                                      clear H1
                                      have H' := Aside0.mk H
                                      clear H
                                      have p21 : 0 ≤ (x6_4 : Int) := of_decide_eq_true (by first | (with_reducible assumption) | assumption)
                                      have q21 : x6_4 < (a0.size : Int) := of_decide_eq_true (by first | (with_reducible assumption) | assumption)
                                      have hx21 := bt_at a0 x6_4
                                      replace p21 := eq_true p21
                                      replace q21 := eq_true q21
                                      go_wp2
                                      go_roundg k4
                                      case measure => have := HK1.out; have := HJ10.out; have := HJ14.out; have := HK4.out; omega
                                      case rel => exact ⟨(wrap64 (x6_4 + 1)), (true), (by first | rfl | (simp; done) | (simp [*]; done)), (by first | rfl | (simp; done) | (simp [*]; done)), H', ⟨by have := HK1.out; have := HJ10.out; have := HJ14.out; have := HK4.out; omega⟩, ⟨by (with_reducible repeat (first | apply Kd.R_alloc | apply Kd.R_drewN | apply Kd.R_drew)); exact HO_3.out⟩, ⟨by repeat (first | (with_reducible first | exact HB.out | apply below_alloc | apply pw_below_drewN | apply below_drew1) | exact HB.out)⟩⟩
                                    · replace c26 := Bool.eq_false_iff.mpr c26
                                      subst c26
                                      have H1 : (if (bt a0 x6_4) = 47 then (if (wrap64 (x6_4 + 1)) < x8_10 then (if 0 ≤ (wrap64 (x6_4 + 1)) then (if (wrap64 (x6_4 + 1)) < (a0.size : Int) then (if ((bt a0 (wrap64 (x6_4 + 1))) = 47) then (testamurlaw09_LexPlaces.l1 k4 a0 t286 (wrap64 (x6_4 + 1)) x7_1 x8_10 ((bt a0 (wrap64 (x6_4 + 1))) == 47)) else ((testamurref09_Space.f (bt a0 x6_4)).bind fun t293 => (if t293 = true then (testamurlaw09_LexPlaces.l1 k4 a0 t286 (wrap64 (x6_4 + 1)) x7_1 x8_10 ((bt a0 (wrap64 (x6_4 + 1))) == 47)) else (some false)))) else (none)) else (none)) else ((testamurref09_Space.f (bt a0 x6_4)).bind fun t294 => (if t294 = true then (testamurlaw09_LexPlaces.l1 k4 a0 t286 (wrap64 (x6_4 + 1)) x7_1 x8_10 false) else (some false)))) else ((testamurref09_Space.f (bt a0 x6_4)).bind fun t295 => (if t295 = true then (testamurlaw09_LexPlaces.l1 k4 a0 t286 (wrap64 (x6_4 + 1)) x7_1 x8_10 false) else (some false)))) = some r := by rw [if_neg (show ¬ (false = true) by decide)] at H; exact H
                                      clear H
                                      have H := H1
                                      clear H1
                                      by_cases c28 : (bt a0 x6_4) = 47
                                      · rw [if_pos c28] at H
                                        have c28b0 : ((bt a0 x6_4) == 47) = true := beq_iff_eq.mpr c28
                                        have c28b1 : ((bt a0 x6_4) != 47) = false := bne_eq_false_iff_eq.mpr c28
                                        clear c28
                                        by_cases c29 : (wrap64 (x6_4 + 1)) < x8_10
                                        · rw [if_pos c29] at H
                                          have c29b0 : decide ((wrap64 (x6_4 + 1)) < x8_10) = true := decide_eq_true c29
                                          clear c29
                                          obtain ⟨ji30, hji30⟩ : ∃ j_ : Int, (wrap64 (x6_4 + 1)) = j_ := ⟨_, rfl⟩
                                          replace H : (if 0 ≤ (ji30) then (if (ji30) < (a0.size : Int) then (if ((bt a0 (ji30)) = 47) then (testamurlaw09_LexPlaces.l1 k4 a0 t286 ji30 x7_1 x8_10 ((bt a0 (ji30)) == 47)) else ((testamurref09_Space.f (bt a0 x6_4)).bind fun t293 => (if t293 = true then (testamurlaw09_LexPlaces.l1 k4 a0 t286 ji30 x7_1 x8_10 ((bt a0 (ji30)) == 47)) else (some false)))) else (none)) else (none)) = some r := by first | (rw [hji30] at H; exact H) | (simp only [hji30] at H ⊢; exact H)
                                          (try rw [hji30] at c29b0)
                                          have hji30w : (IntKind.i64.wrap (x6_4 + 1)) = ji30 := (i64_w _).trans hji30
                                          by_cases c31 : 0 ≤ (ji30)
                                          · rw [if_pos c31] at H
                                            have c31b0 : decide (0 ≤ (ji30)) = true := decide_eq_true c31
                                            clear c31
                                            by_cases c32 : (ji30) < (a0.size : Int)
                                            · rw [if_pos c32] at H
                                              have c32b0 : decide ((ji30) < (a0.size : Int)) = true := decide_eq_true c32
                                              clear c32
                                              by_cases c34 : ((bt a0 (ji30)) = 47)
                                              · rw [if_pos c34] at H
                                                have c34b0 : ((bt a0 (ji30)) == 47) = true := beq_iff_eq.mpr c34
                                                have c34b1 : ((bt a0 (ji30)) != 47) = false := bne_eq_false_iff_eq.mpr c34
                                                clear c34
                                                have H' := Aside0.mk H
                                                clear H
                                                have p21 : 0 ≤ (x6_4 : Int) := of_decide_eq_true (by first | (with_reducible assumption) | assumption)
                                                have q21 : x6_4 < (a0.size : Int) := of_decide_eq_true (by first | (with_reducible assumption) | assumption)
                                                have hx21 := bt_at a0 x6_4
                                                replace p21 := eq_true p21
                                                replace q21 := eq_true q21
                                                have p27 : 0 ≤ (x6_4 : Int) := of_decide_eq_true (by first | (with_reducible assumption) | assumption)
                                                have q27 : x6_4 < (a0.size : Int) := of_decide_eq_true (by first | (with_reducible assumption) | assumption)
                                                have hx27 := bt_at a0 x6_4
                                                replace p27 := eq_true p27
                                                replace q27 := eq_true q27
                                                have p33 : 0 ≤ ((ji30) : Int) := of_decide_eq_true (by first | (with_reducible assumption) | assumption)
                                                have q33 : (ji30) < (a0.size : Int) := of_decide_eq_true (by first | (with_reducible assumption) | assumption)
                                                have hx33 := bt_at a0 (ji30)
                                                replace p33 := eq_true p33
                                                replace q33 := eq_true q33
                                                go_wp2
                                                go_roundg k4
                                                case measure => have := HK1.out; have := HJ10.out; have := HJ14.out; have := HK4.out; omega
                                                case rel => exact ⟨(ji30), (((bt a0 (ji30)) == 47)), (by first | rfl | (simp; done) | (simp only [← hji30] <;> (first | rfl | (simp; done))) | (simp [*]; done)), (by first | rfl | (simp; done) | (simp only [← hji30] <;> (first | rfl | (simp; done))) | (simp [*]; done)), H', ⟨by have := HK1.out; have := HJ10.out; have := HJ14.out; have := HK4.out; omega⟩, ⟨by (with_reducible repeat (first | apply Kd.R_alloc | apply Kd.R_drewN | apply Kd.R_drew)); exact HO_3.out⟩, ⟨by repeat (first | (with_reducible first | exact HB.out | apply below_alloc | apply pw_below_drewN | apply below_drew1) | exact HB.out)⟩⟩
                                              · rw [if_neg c34] at H
                                                have c34b0 : ((bt a0 (ji30)) == 47) = false := beq_eq_false_iff_ne.mpr c34
                                                have c34b1 : ((bt a0 (ji30)) != 47) = true := bne_iff_ne.mpr c34
                                                replace H := Option.bind_eq_some_iff.mp H
                                                obtain ⟨t293, A360, H⟩ := H
                                                replace H : (if t293 = true then (testamurlaw09_LexPlaces.l1 k4 a0 t286 ji30 x7_1 x8_10 ((bt a0 (ji30)) == 47)) else (some false)) = some r := H
                                                have A36 := Aside0.mk A360
                                                clear A360
                                                by_cases c37 : t293 = true
                                                · subst c37
                                                  have H1 : (testamurlaw09_LexPlaces.l1 k4 a0 t286 ji30 x7_1 x8_10 ((bt a0 (ji30)) == 47)) = some r := by rw [if_pos rfl] at H; exact H
                                                  clear H
                                                  have H := H1
                                                  clear H1
                                                  have H' := Aside0.mk H
                                                  clear H
                                                  have p21 : 0 ≤ (x6_4 : Int) := of_decide_eq_true (by first | (with_reducible assumption) | assumption)
                                                  have q21 : x6_4 < (a0.size : Int) := of_decide_eq_true (by first | (with_reducible assumption) | assumption)
                                                  have hx21 := bt_at a0 x6_4
                                                  replace p21 := eq_true p21
                                                  replace q21 := eq_true q21
                                                  have p27 : 0 ≤ (x6_4 : Int) := of_decide_eq_true (by first | (with_reducible assumption) | assumption)
                                                  have q27 : x6_4 < (a0.size : Int) := of_decide_eq_true (by first | (with_reducible assumption) | assumption)
                                                  have hx27 := bt_at a0 x6_4
                                                  replace p27 := eq_true p27
                                                  replace q27 := eq_true q27
                                                  have p33 : 0 ≤ ((ji30) : Int) := of_decide_eq_true (by first | (with_reducible assumption) | assumption)
                                                  have q33 : (ji30) < (a0.size : Int) := of_decide_eq_true (by first | (with_reducible assumption) | assumption)
                                                  have hx33 := bt_at a0 (ji30)
                                                  replace p33 := eq_true p33
                                                  replace q33 := eq_true q33
                                                  have p35 : 0 ≤ (x6_4 : Int) := of_decide_eq_true (by first | (with_reducible assumption) | assumption)
                                                  have q35 : x6_4 < (a0.size : Int) := of_decide_eq_true (by first | (with_reducible assumption) | assumption)
                                                  have hx35 := bt_at a0 x6_4
                                                  replace p35 := eq_true p35
                                                  replace q35 := eq_true q35
                                                  go_wp2_with (first | (go_at_call 22; (with_reducible refine (testamurref09_Space.calls (bt a0 x6_4) true _ A36.out).mono ?_); rintro e w' ⟨rfl, ⟨nd, rfl⟩⟩))
                                                  go_roundg k4
                                                  case measure => have := HK1.out; have := HJ10.out; have := HJ14.out; have := HK4.out; omega
                                                  case rel => exact ⟨(ji30), (((bt a0 (ji30)) == 47)), (by first | rfl | (simp; done) | (simp only [← hji30] <;> (first | rfl | (simp; done))) | (simp [*]; done)), (by first | rfl | (simp; done) | (simp only [← hji30] <;> (first | rfl | (simp; done))) | (simp [*]; done)), H', ⟨by have := HK1.out; have := HJ10.out; have := HJ14.out; have := HK4.out; omega⟩, ⟨by (with_reducible repeat (first | apply Kd.R_alloc | apply Kd.R_drewN | apply Kd.R_drew)); exact HO_3.out⟩, ⟨by repeat (first | (with_reducible first | exact HB.out | apply below_alloc | apply pw_below_drewN | apply below_drew1) | exact HB.out)⟩⟩
                                                · replace c37 := Bool.eq_false_iff.mpr c37
                                                  subst c37
                                                  have H1 : (some false) = some r := by rw [if_neg (show ¬ (false = true) by decide)] at H; exact H
                                                  clear H
                                                  have H := H1
                                                  clear H1
                                                  obtain rfl := Option.some.inj H
                                                  have p21 : 0 ≤ (x6_4 : Int) := of_decide_eq_true (by first | (with_reducible assumption) | assumption)
                                                  have q21 : x6_4 < (a0.size : Int) := of_decide_eq_true (by first | (with_reducible assumption) | assumption)
                                                  have hx21 := bt_at a0 x6_4
                                                  replace p21 := eq_true p21
                                                  replace q21 := eq_true q21
                                                  have p27 : 0 ≤ (x6_4 : Int) := of_decide_eq_true (by first | (with_reducible assumption) | assumption)
                                                  have q27 : x6_4 < (a0.size : Int) := of_decide_eq_true (by first | (with_reducible assumption) | assumption)
                                                  have hx27 := bt_at a0 x6_4
                                                  replace p27 := eq_true p27
                                                  replace q27 := eq_true q27
                                                  have p33 : 0 ≤ ((ji30) : Int) := of_decide_eq_true (by first | (with_reducible assumption) | assumption)
                                                  have q33 : (ji30) < (a0.size : Int) := of_decide_eq_true (by first | (with_reducible assumption) | assumption)
                                                  have hx33 := bt_at a0 (ji30)
                                                  replace p33 := eq_true p33
                                                  replace q33 := eq_true q33
                                                  have p35 : 0 ≤ (x6_4 : Int) := of_decide_eq_true (by first | (with_reducible assumption) | assumption)
                                                  have q35 : x6_4 < (a0.size : Int) := of_decide_eq_true (by first | (with_reducible assumption) | assumption)
                                                  have hx35 := bt_at a0 x6_4
                                                  replace p35 := eq_true p35
                                                  replace q35 := eq_true q35
                                                  go_wp2_with (first | (go_at_call 22; (with_reducible refine (testamurref09_Space.calls (bt a0 x6_4) false _ A36.out).mono ?_); rintro e w' ⟨rfl, ⟨nd, rfl⟩⟩))
                                                  go_ret
                                                  exact ⟨by first | rfl | (simp [errW_none, errW_some] <;> rfl) | (simp only [← hji30]; first | rfl | (simp [errW_none, errW_some] <;> rfl)) | (simp [*, errW_none, errW_some] <;> rfl), by repeat (first | (with_reducible first | exact HB.out | apply below_alloc | apply pw_below_drewN | apply below_drew1) | exact HB.out)⟩
                                            · rw [if_neg c32] at H
                                              exact absurd H (by simp)
                                          · rw [if_neg c31] at H
                                            exact absurd H (by simp)
                                        · rw [if_neg c29] at H
                                          have c29b0 : decide ((wrap64 (x6_4 + 1)) < x8_10) = false := decide_eq_false c29
                                          clear c29
                                          replace H := Option.bind_eq_some_iff.mp H
                                          obtain ⟨t294, A390, H⟩ := H
                                          replace H : (if t294 = true then (testamurlaw09_LexPlaces.l1 k4 a0 t286 (wrap64 (x6_4 + 1)) x7_1 x8_10 false) else (some false)) = some r := H
                                          have A39 := Aside0.mk A390
                                          clear A390
                                          by_cases c40 : t294 = true
                                          · subst c40
                                            have H1 : (testamurlaw09_LexPlaces.l1 k4 a0 t286 (wrap64 (x6_4 + 1)) x7_1 x8_10 false) = some r := by rw [if_pos rfl] at H; exact H
                                            clear H
                                            have H := H1
                                            clear H1
                                            have H' := Aside0.mk H
                                            clear H
                                            have p21 : 0 ≤ (x6_4 : Int) := of_decide_eq_true (by first | (with_reducible assumption) | assumption)
                                            have q21 : x6_4 < (a0.size : Int) := of_decide_eq_true (by first | (with_reducible assumption) | assumption)
                                            have hx21 := bt_at a0 x6_4
                                            replace p21 := eq_true p21
                                            replace q21 := eq_true q21
                                            have p27 : 0 ≤ (x6_4 : Int) := of_decide_eq_true (by first | (with_reducible assumption) | assumption)
                                            have q27 : x6_4 < (a0.size : Int) := of_decide_eq_true (by first | (with_reducible assumption) | assumption)
                                            have hx27 := bt_at a0 x6_4
                                            replace p27 := eq_true p27
                                            replace q27 := eq_true q27
                                            have p38 : 0 ≤ (x6_4 : Int) := of_decide_eq_true (by first | (with_reducible assumption) | assumption)
                                            have q38 : x6_4 < (a0.size : Int) := of_decide_eq_true (by first | (with_reducible assumption) | assumption)
                                            have hx38 := bt_at a0 x6_4
                                            replace p38 := eq_true p38
                                            replace q38 := eq_true q38
                                            go_wp2_with (first | (go_at_call 22; (with_reducible refine (testamurref09_Space.calls (bt a0 x6_4) true _ A39.out).mono ?_); rintro e w' ⟨rfl, ⟨nd, rfl⟩⟩))
                                            go_roundg k4
                                            case measure => have := HK1.out; have := HJ10.out; have := HJ14.out; have := HK4.out; omega
                                            case rel => exact ⟨(wrap64 (x6_4 + 1)), (false), (by first | rfl | (simp; done) | (simp [*]; done)), (by first | rfl | (simp; done) | (simp [*]; done)), H', ⟨by have := HK1.out; have := HJ10.out; have := HJ14.out; have := HK4.out; omega⟩, ⟨by (with_reducible repeat (first | apply Kd.R_alloc | apply Kd.R_drewN | apply Kd.R_drew)); exact HO_3.out⟩, ⟨by repeat (first | (with_reducible first | exact HB.out | apply below_alloc | apply pw_below_drewN | apply below_drew1) | exact HB.out)⟩⟩
                                          · replace c40 := Bool.eq_false_iff.mpr c40
                                            subst c40
                                            have H1 : (some false) = some r := by rw [if_neg (show ¬ (false = true) by decide)] at H; exact H
                                            clear H
                                            have H := H1
                                            clear H1
                                            obtain rfl := Option.some.inj H
                                            have p21 : 0 ≤ (x6_4 : Int) := of_decide_eq_true (by first | (with_reducible assumption) | assumption)
                                            have q21 : x6_4 < (a0.size : Int) := of_decide_eq_true (by first | (with_reducible assumption) | assumption)
                                            have hx21 := bt_at a0 x6_4
                                            replace p21 := eq_true p21
                                            replace q21 := eq_true q21
                                            have p27 : 0 ≤ (x6_4 : Int) := of_decide_eq_true (by first | (with_reducible assumption) | assumption)
                                            have q27 : x6_4 < (a0.size : Int) := of_decide_eq_true (by first | (with_reducible assumption) | assumption)
                                            have hx27 := bt_at a0 x6_4
                                            replace p27 := eq_true p27
                                            replace q27 := eq_true q27
                                            have p38 : 0 ≤ (x6_4 : Int) := of_decide_eq_true (by first | (with_reducible assumption) | assumption)
                                            have q38 : x6_4 < (a0.size : Int) := of_decide_eq_true (by first | (with_reducible assumption) | assumption)
                                            have hx38 := bt_at a0 x6_4
                                            replace p38 := eq_true p38
                                            replace q38 := eq_true q38
                                            go_wp2_with (first | (go_at_call 22; (with_reducible refine (testamurref09_Space.calls (bt a0 x6_4) false _ A39.out).mono ?_); rintro e w' ⟨rfl, ⟨nd, rfl⟩⟩))
                                            go_ret
                                            exact ⟨by first | rfl | (simp [errW_none, errW_some] <;> rfl) | (simp [*, errW_none, errW_some] <;> rfl), by repeat (first | (with_reducible first | exact HB.out | apply below_alloc | apply pw_below_drewN | apply below_drew1) | exact HB.out)⟩
                                      · rw [if_neg c28] at H
                                        have c28b0 : ((bt a0 x6_4) == 47) = false := beq_eq_false_iff_ne.mpr c28
                                        have c28b1 : ((bt a0 x6_4) != 47) = true := bne_iff_ne.mpr c28
                                        replace H := Option.bind_eq_some_iff.mp H
                                        obtain ⟨t295, A420, H⟩ := H
                                        replace H : (if t295 = true then (testamurlaw09_LexPlaces.l1 k4 a0 t286 (wrap64 (x6_4 + 1)) x7_1 x8_10 false) else (some false)) = some r := H
                                        have A42 := Aside0.mk A420
                                        clear A420
                                        by_cases c43 : t295 = true
                                        · subst c43
                                          have H1 : (testamurlaw09_LexPlaces.l1 k4 a0 t286 (wrap64 (x6_4 + 1)) x7_1 x8_10 false) = some r := by rw [if_pos rfl] at H; exact H
                                          clear H
                                          have H := H1
                                          clear H1
                                          have H' := Aside0.mk H
                                          clear H
                                          have p21 : 0 ≤ (x6_4 : Int) := of_decide_eq_true (by first | (with_reducible assumption) | assumption)
                                          have q21 : x6_4 < (a0.size : Int) := of_decide_eq_true (by first | (with_reducible assumption) | assumption)
                                          have hx21 := bt_at a0 x6_4
                                          replace p21 := eq_true p21
                                          replace q21 := eq_true q21
                                          have p27 : 0 ≤ (x6_4 : Int) := of_decide_eq_true (by first | (with_reducible assumption) | assumption)
                                          have q27 : x6_4 < (a0.size : Int) := of_decide_eq_true (by first | (with_reducible assumption) | assumption)
                                          have hx27 := bt_at a0 x6_4
                                          replace p27 := eq_true p27
                                          replace q27 := eq_true q27
                                          have p41 : 0 ≤ (x6_4 : Int) := of_decide_eq_true (by first | (with_reducible assumption) | assumption)
                                          have q41 : x6_4 < (a0.size : Int) := of_decide_eq_true (by first | (with_reducible assumption) | assumption)
                                          have hx41 := bt_at a0 x6_4
                                          replace p41 := eq_true p41
                                          replace q41 := eq_true q41
                                          go_wp2_with (first | (go_at_call 22; (with_reducible refine (testamurref09_Space.calls (bt a0 x6_4) true _ A42.out).mono ?_); rintro e w' ⟨rfl, ⟨nd, rfl⟩⟩))
                                          go_roundg k4
                                          case measure => have := HK1.out; have := HJ10.out; have := HJ14.out; have := HK4.out; omega
                                          case rel => exact ⟨(wrap64 (x6_4 + 1)), (false), (by first | rfl | (simp; done) | (simp [*]; done)), (by first | rfl | (simp; done) | (simp [*]; done)), H', ⟨by have := HK1.out; have := HJ10.out; have := HJ14.out; have := HK4.out; omega⟩, ⟨by (with_reducible repeat (first | apply Kd.R_alloc | apply Kd.R_drewN | apply Kd.R_drew)); exact HO_3.out⟩, ⟨by repeat (first | (with_reducible first | exact HB.out | apply below_alloc | apply pw_below_drewN | apply below_drew1) | exact HB.out)⟩⟩
                                        · replace c43 := Bool.eq_false_iff.mpr c43
                                          subst c43
                                          have H1 : (some false) = some r := by rw [if_neg (show ¬ (false = true) by decide)] at H; exact H
                                          clear H
                                          have H := H1
                                          clear H1
                                          obtain rfl := Option.some.inj H
                                          have p21 : 0 ≤ (x6_4 : Int) := of_decide_eq_true (by first | (with_reducible assumption) | assumption)
                                          have q21 : x6_4 < (a0.size : Int) := of_decide_eq_true (by first | (with_reducible assumption) | assumption)
                                          have hx21 := bt_at a0 x6_4
                                          replace p21 := eq_true p21
                                          replace q21 := eq_true q21
                                          have p27 : 0 ≤ (x6_4 : Int) := of_decide_eq_true (by first | (with_reducible assumption) | assumption)
                                          have q27 : x6_4 < (a0.size : Int) := of_decide_eq_true (by first | (with_reducible assumption) | assumption)
                                          have hx27 := bt_at a0 x6_4
                                          replace p27 := eq_true p27
                                          replace q27 := eq_true q27
                                          have p41 : 0 ≤ (x6_4 : Int) := of_decide_eq_true (by first | (with_reducible assumption) | assumption)
                                          have q41 : x6_4 < (a0.size : Int) := of_decide_eq_true (by first | (with_reducible assumption) | assumption)
                                          have hx41 := bt_at a0 x6_4
                                          replace p41 := eq_true p41
                                          replace q41 := eq_true q41
                                          go_wp2_with (first | (go_at_call 22; (with_reducible refine (testamurref09_Space.calls (bt a0 x6_4) false _ A42.out).mono ?_); rintro e w' ⟨rfl, ⟨nd, rfl⟩⟩))
                                          go_ret
                                          exact ⟨by first | rfl | (simp [errW_none, errW_some] <;> rfl) | (simp [*, errW_none, errW_some] <;> rfl), by repeat (first | (with_reducible first | exact HB.out | apply below_alloc | apply pw_below_drewN | apply below_drew1) | exact HB.out)⟩
                                · rw [if_neg c20] at H
                                  exact absurd H (by simp)
                              · rw [if_neg c19] at H
                                exact absurd H (by simp)
                            · rw [if_neg c18] at H
                              have c18b0 : decide (x6_4 < x8_10) = false := decide_eq_false c18
                              clear c18
                              by_cases c44 : x7_1 = (t286.length : Int)
                              · rw [if_pos c44] at H
                                have c44b0 : (x7_1 == (t286.length : Int)) = true := beq_iff_eq.mpr c44
                                have c44b1 : (x7_1 != (t286.length : Int)) = false := bne_eq_false_iff_eq.mpr c44
                                clear c44
                                obtain rfl := Option.some.inj H
                                go_wp2
                                go_ret
                                exact ⟨by first | rfl | (simp [errW_none, errW_some] <;> rfl) | (simp [*, errW_none, errW_some] <;> rfl), by repeat (first | (with_reducible first | exact HB.out | apply below_alloc | apply pw_below_drewN | apply below_drew1) | exact HB.out)⟩
                              · rw [if_neg c44] at H
                                have c44b0 : (x7_1 == (t286.length : Int)) = false := beq_eq_false_iff_ne.mpr c44
                                have c44b1 : (x7_1 != (t286.length : Int)) = true := bne_iff_ne.mpr c44
                                by_cases c45 : 0 ≤ x7_1
                                · rw [if_pos c45] at H
                                  have c45b0 : decide (0 ≤ x7_1) = true := decide_eq_true c45
                                  clear c45
                                  by_cases c46 : x7_1 < (t286.length : Int)
                                  · rw [if_pos c46] at H
                                    have c46b0 : decide (x7_1 < (t286.length : Int)) = true := decide_eq_true c46
                                    clear c46
                                    replace H := Option.bind_eq_some_iff.mp H
                                    obtain ⟨t297, A470, H⟩ := H
                                    replace H : (if x9_4 = true then (some false) else (if (t297.size : Int) = 0 then (some false) else (if (wrap64 (x6_4 + (t297.size : Int))) > (a0.size : Int) then (some false) else (if 0 ≤ x6_4 then (if x6_4 ≤ (wrap64 (x6_4 + (t297.size : Int))) then (if (wrap64 (x6_4 + (t297.size : Int))) ≤ (a0.size : Int) then (if (a0.extract (x6_4 : Int).toNat ((wrap64 (x6_4 + (t297.size : Int))) : Int).toNat).toList = t297.toList then (testamurlaw09_LexPlaces.l0 k4 a0 t286 (wrap64 (x6_4 + (t297.size : Int))) (wrap64 (x7_1 + 1))) else (some false)) else (none)) else (none)) else (none))))) = some r := H
                                    have A47 := Aside0.mk A470
                                    clear A470
                                    by_cases c48 : x9_4 = true
                                    · subst c48
                                      have H1 : (some false) = some r := by rw [if_pos rfl] at H; exact H
                                      clear H
                                      have H := H1
                                      clear H1
                                      obtain rfl := Option.some.inj H
                                      have p296 : 0 ≤ (x7_1 : Int) := of_decide_eq_true (by first | (with_reducible assumption) | assumption)
                                      have q296 : x7_1 < (t286.length : Int) := of_decide_eq_true (by first | (with_reducible assumption) | assumption)
                                      obtain ⟨ad296, e296, hx296_0, hx296_1, hx296_2, hx296_3⟩ := at_T35 (Kd.R_reads' HO_3.out).2.2 x7_1 p296 q296
                                      cases e296
                                      replace p296 := eq_true p296
                                      replace q296 := eq_true q296
                                      go_wp2_with (first | ((with_reducible refine gate_callee (f := 23) rfl ?_); refine goesL_ (some 101) rfl rfl Tryd.func23 (by kernel_rfl) rfl #[.agg #[.int .i64 ((rd_T35 t286 x7_1).f0), .string ((rd_T35 t286 x7_1).f1), .int .i64 ((rd_T35 t286 x7_1).f2), .int .i64 ((rd_T35 t286 x7_1).f3)]] rfl (by (try simp only [List.map_toArray, List.map_cons, List.map_nil]); first | done | rfl | (simp only [List.length_drop, List.length_take]; rfl)) ?_; (with_reducible refine (testamurlaw09_spelled.calls k4 ((rd_T35 t286 x7_1).f0) ((rd_T35 t286 x7_1).f1) ((rd_T35 t286 x7_1).f2) ((rd_T35 t286 x7_1).f3) t297 _ A47.out).mono ?_); rintro e w49 ⟨rfl, hb⟩; refine ⟨_, rfl, ?_⟩; have n0_ := Aside0.mk (Kd.R_below (by (with_reducible repeat (first | apply Kd.R_alloc | apply Kd.R_drewN | apply Kd.R_drew)); exact HO_3.out) hb); have n1_ := Aside0.mk (below_step (by repeat (first | (with_reducible first | exact HB.out | apply below_alloc | apply pw_below_drewN | apply below_drew1) | exact HB.out)) hb); clear HO_3; clear HB; have HO_3 := n0_; have HB := n1_; clear n0_ n1_; (try clear hb); (try clear hb2); (try clear hk); (try clear hi)))
                                      go_ret
                                      exact ⟨by first | rfl | (simp [errW_none, errW_some] <;> rfl) | (simp [*, errW_none, errW_some] <;> rfl), by repeat (first | (with_reducible first | exact HB.out | apply below_alloc | apply pw_below_drewN | apply below_drew1) | exact HB.out)⟩
                                    · replace c48 := Bool.eq_false_iff.mpr c48
                                      subst c48
                                      have H1 : (if (t297.size : Int) = 0 then (some false) else (if (wrap64 (x6_4 + (t297.size : Int))) > (a0.size : Int) then (some false) else (if 0 ≤ x6_4 then (if x6_4 ≤ (wrap64 (x6_4 + (t297.size : Int))) then (if (wrap64 (x6_4 + (t297.size : Int))) ≤ (a0.size : Int) then (if (a0.extract (x6_4 : Int).toNat ((wrap64 (x6_4 + (t297.size : Int))) : Int).toNat).toList = t297.toList then (testamurlaw09_LexPlaces.l0 k4 a0 t286 (wrap64 (x6_4 + (t297.size : Int))) (wrap64 (x7_1 + 1))) else (some false)) else (none)) else (none)) else (none)))) = some r := by rw [if_neg (show ¬ (false = true) by decide)] at H; exact H
                                      clear H
                                      have H := H1
                                      clear H1
                                      by_cases c50 : (t297.size : Int) = 0
                                      · rw [if_pos c50] at H
                                        have c50b0 : ((t297.size : Int) == 0) = true := beq_iff_eq.mpr c50
                                        have c50b1 : ((t297.size : Int) != 0) = false := bne_eq_false_iff_eq.mpr c50
                                        clear c50
                                        obtain rfl := Option.some.inj H
                                        have p296 : 0 ≤ (x7_1 : Int) := of_decide_eq_true (by first | (with_reducible assumption) | assumption)
                                        have q296 : x7_1 < (t286.length : Int) := of_decide_eq_true (by first | (with_reducible assumption) | assumption)
                                        obtain ⟨ad296, e296, hx296_0, hx296_1, hx296_2, hx296_3⟩ := at_T35 (Kd.R_reads' HO_3.out).2.2 x7_1 p296 q296
                                        cases e296
                                        replace p296 := eq_true p296
                                        replace q296 := eq_true q296
                                        go_wp2_with (first | ((with_reducible refine gate_callee (f := 23) rfl ?_); refine goesL_ (some 101) rfl rfl Tryd.func23 (by kernel_rfl) rfl #[.agg #[.int .i64 ((rd_T35 t286 x7_1).f0), .string ((rd_T35 t286 x7_1).f1), .int .i64 ((rd_T35 t286 x7_1).f2), .int .i64 ((rd_T35 t286 x7_1).f3)]] rfl (by (try simp only [List.map_toArray, List.map_cons, List.map_nil]); first | done | rfl | (simp only [List.length_drop, List.length_take]; rfl)) ?_; (with_reducible refine (testamurlaw09_spelled.calls k4 ((rd_T35 t286 x7_1).f0) ((rd_T35 t286 x7_1).f1) ((rd_T35 t286 x7_1).f2) ((rd_T35 t286 x7_1).f3) t297 _ A47.out).mono ?_); rintro e w51 ⟨rfl, hb⟩; refine ⟨_, rfl, ?_⟩; have n0_ := Aside0.mk (Kd.R_below (by (with_reducible repeat (first | apply Kd.R_alloc | apply Kd.R_drewN | apply Kd.R_drew)); exact HO_3.out) hb); have n1_ := Aside0.mk (below_step (by repeat (first | (with_reducible first | exact HB.out | apply below_alloc | apply pw_below_drewN | apply below_drew1) | exact HB.out)) hb); clear HO_3; clear HB; have HO_3 := n0_; have HB := n1_; clear n0_ n1_; (try clear hb); (try clear hb2); (try clear hk); (try clear hi)))
                                        go_ret
                                        exact ⟨by first | rfl | (simp [errW_none, errW_some] <;> rfl) | (simp [*, errW_none, errW_some] <;> rfl), by repeat (first | (with_reducible first | exact HB.out | apply below_alloc | apply pw_below_drewN | apply below_drew1) | exact HB.out)⟩
                                      · rw [if_neg c50] at H
                                        have c50b0 : ((t297.size : Int) == 0) = false := beq_eq_false_iff_ne.mpr c50
                                        have c50b1 : ((t297.size : Int) != 0) = true := bne_iff_ne.mpr c50
                                        by_cases c52 : (wrap64 (x6_4 + (t297.size : Int))) > (a0.size : Int)
                                        · rw [if_pos c52] at H
                                          have c52b0 : decide ((a0.size : Int) < (wrap64 (x6_4 + (t297.size : Int)))) = true := decide_eq_true c52
                                          clear c52
                                          obtain rfl := Option.some.inj H
                                          have p296 : 0 ≤ (x7_1 : Int) := of_decide_eq_true (by first | (with_reducible assumption) | assumption)
                                          have q296 : x7_1 < (t286.length : Int) := of_decide_eq_true (by first | (with_reducible assumption) | assumption)
                                          obtain ⟨ad296, e296, hx296_0, hx296_1, hx296_2, hx296_3⟩ := at_T35 (Kd.R_reads' HO_3.out).2.2 x7_1 p296 q296
                                          cases e296
                                          replace p296 := eq_true p296
                                          replace q296 := eq_true q296
                                          go_wp2_with (first | ((with_reducible refine gate_callee (f := 23) rfl ?_); refine goesL_ (some 101) rfl rfl Tryd.func23 (by kernel_rfl) rfl #[.agg #[.int .i64 ((rd_T35 t286 x7_1).f0), .string ((rd_T35 t286 x7_1).f1), .int .i64 ((rd_T35 t286 x7_1).f2), .int .i64 ((rd_T35 t286 x7_1).f3)]] rfl (by (try simp only [List.map_toArray, List.map_cons, List.map_nil]); first | done | rfl | (simp only [List.length_drop, List.length_take]; rfl)) ?_; (with_reducible refine (testamurlaw09_spelled.calls k4 ((rd_T35 t286 x7_1).f0) ((rd_T35 t286 x7_1).f1) ((rd_T35 t286 x7_1).f2) ((rd_T35 t286 x7_1).f3) t297 _ A47.out).mono ?_); rintro e w53 ⟨rfl, hb⟩; refine ⟨_, rfl, ?_⟩; have n0_ := Aside0.mk (Kd.R_below (by (with_reducible repeat (first | apply Kd.R_alloc | apply Kd.R_drewN | apply Kd.R_drew)); exact HO_3.out) hb); have n1_ := Aside0.mk (below_step (by repeat (first | (with_reducible first | exact HB.out | apply below_alloc | apply pw_below_drewN | apply below_drew1) | exact HB.out)) hb); clear HO_3; clear HB; have HO_3 := n0_; have HB := n1_; clear n0_ n1_; (try clear hb); (try clear hb2); (try clear hk); (try clear hi)))
                                          go_ret
                                          exact ⟨by first | rfl | (simp [errW_none, errW_some] <;> rfl) | (simp [*, errW_none, errW_some] <;> rfl), by repeat (first | (with_reducible first | exact HB.out | apply below_alloc | apply pw_below_drewN | apply below_drew1) | exact HB.out)⟩
                                        · rw [if_neg c52] at H
                                          have c52b0 : decide ((a0.size : Int) < (wrap64 (x6_4 + (t297.size : Int)))) = false := decide_eq_false c52
                                          clear c52
                                          by_cases c54 : 0 ≤ x6_4
                                          · rw [if_pos c54] at H
                                            have c54b0 := eq_true c54
                                            have c54b1 : decide (0 ≤ x6_4) = true := decide_eq_true c54
                                            clear c54
                                            by_cases c55 : x6_4 ≤ (wrap64 (x6_4 + (t297.size : Int)))
                                            · rw [if_pos c55] at H
                                              have c55b0 := eq_true c55
                                              have c55b1 : decide (x6_4 ≤ (wrap64 (x6_4 + (t297.size : Int)))) = true := decide_eq_true c55
                                              by_cases c56 : (wrap64 (x6_4 + (t297.size : Int))) ≤ (a0.size : Int)
                                              · rw [if_pos c56] at H
                                                have c56b0 := eq_true c56
                                                have c56b1 : decide ((wrap64 (x6_4 + (t297.size : Int))) ≤ (a0.size : Int)) = true := decide_eq_true c56
                                                by_cases c57 : (a0.extract (x6_4 : Int).toNat ((wrap64 (x6_4 + (t297.size : Int))) : Int).toNat).toList = t297.toList
                                                · rw [if_pos c57] at H
                                                  have c57b0 : ((a0.extract (x6_4 : Int).toNat ((wrap64 (x6_4 + (t297.size : Int))) : Int).toNat).toList == t297.toList) = true := beq_iff_eq.mpr c57
                                                  have c57b1 : ((a0.extract (x6_4 : Int).toNat ((wrap64 (x6_4 + (t297.size : Int))) : Int).toNat).toList != t297.toList) = false := bne_eq_false_iff_eq.mpr c57
                                                  clear c57
                                                  have H' := Aside0.mk H
                                                  clear H
                                                  have p296 : 0 ≤ (x7_1 : Int) := of_decide_eq_true (by first | (with_reducible assumption) | assumption)
                                                  have q296 : x7_1 < (t286.length : Int) := of_decide_eq_true (by first | (with_reducible assumption) | assumption)
                                                  obtain ⟨ad296, e296, hx296_0, hx296_1, hx296_2, hx296_3⟩ := at_T35 (Kd.R_reads' HO_3.out).2.2 x7_1 p296 q296
                                                  cases e296
                                                  replace p296 := eq_true p296
                                                  replace q296 := eq_true q296
                                                  go_wp2_with (first | ((with_reducible refine gate_callee (f := 23) rfl ?_); refine goesL_ (some 101) rfl rfl Tryd.func23 (by kernel_rfl) rfl #[.agg #[.int .i64 ((rd_T35 t286 x7_1).f0), .string ((rd_T35 t286 x7_1).f1), .int .i64 ((rd_T35 t286 x7_1).f2), .int .i64 ((rd_T35 t286 x7_1).f3)]] rfl (by (try simp only [List.map_toArray, List.map_cons, List.map_nil]); first | done | rfl | (simp only [List.length_drop, List.length_take]; rfl)) ?_; (with_reducible refine (testamurlaw09_spelled.calls k4 ((rd_T35 t286 x7_1).f0) ((rd_T35 t286 x7_1).f1) ((rd_T35 t286 x7_1).f2) ((rd_T35 t286 x7_1).f3) t297 _ A47.out).mono ?_); rintro e w58 ⟨rfl, hb⟩; refine ⟨_, rfl, ?_⟩; have n0_ := Aside0.mk (Kd.R_below (by (with_reducible repeat (first | apply Kd.R_alloc | apply Kd.R_drewN | apply Kd.R_drew)); exact HO_3.out) hb); have n1_ := Aside0.mk (below_step (by repeat (first | (with_reducible first | exact HB.out | apply below_alloc | apply pw_below_drewN | apply below_drew1) | exact HB.out)) hb); clear HO_3; clear HB; have HO_3 := n0_; have HB := n1_; clear n0_ n1_; (try clear hb); (try clear hb2); (try clear hk); (try clear hi)))
                                                  go_roundg k4
                                                  case measure => have := HK1.out; have := HJ10.out; have := HJ14.out; have := HK4.out; omega
                                                  case rel => exact ⟨(wrap64 (x6_4 + (t297.size : Int))), (wrap64 (x7_1 + 1)), (by first | rfl | (simp; done) | (simp [*]; done)), (by first | rfl | (simp; done) | (simp [*]; done)), H', ⟨by have := HK1.out; have := HJ10.out; have := HJ14.out; have := HK4.out; omega⟩, ⟨by (with_reducible repeat (first | apply Kd.R_alloc | apply Kd.R_drewN | apply Kd.R_drew)); exact HO_3.out⟩, ⟨by repeat (first | (with_reducible first | exact HB.out | apply below_alloc | apply pw_below_drewN | apply below_drew1) | exact HB.out)⟩⟩
                                                · rw [if_neg c57] at H
                                                  have c57b0 : ((a0.extract (x6_4 : Int).toNat ((wrap64 (x6_4 + (t297.size : Int))) : Int).toNat).toList == t297.toList) = false := beq_eq_false_iff_ne.mpr c57
                                                  have c57b1 : ((a0.extract (x6_4 : Int).toNat ((wrap64 (x6_4 + (t297.size : Int))) : Int).toNat).toList != t297.toList) = true := bne_iff_ne.mpr c57
                                                  obtain rfl := Option.some.inj H
                                                  have p296 : 0 ≤ (x7_1 : Int) := of_decide_eq_true (by first | (with_reducible assumption) | assumption)
                                                  have q296 : x7_1 < (t286.length : Int) := of_decide_eq_true (by first | (with_reducible assumption) | assumption)
                                                  obtain ⟨ad296, e296, hx296_0, hx296_1, hx296_2, hx296_3⟩ := at_T35 (Kd.R_reads' HO_3.out).2.2 x7_1 p296 q296
                                                  cases e296
                                                  replace p296 := eq_true p296
                                                  replace q296 := eq_true q296
                                                  go_wp2_with (first | ((with_reducible refine gate_callee (f := 23) rfl ?_); refine goesL_ (some 101) rfl rfl Tryd.func23 (by kernel_rfl) rfl #[.agg #[.int .i64 ((rd_T35 t286 x7_1).f0), .string ((rd_T35 t286 x7_1).f1), .int .i64 ((rd_T35 t286 x7_1).f2), .int .i64 ((rd_T35 t286 x7_1).f3)]] rfl (by (try simp only [List.map_toArray, List.map_cons, List.map_nil]); first | done | rfl | (simp only [List.length_drop, List.length_take]; rfl)) ?_; (with_reducible refine (testamurlaw09_spelled.calls k4 ((rd_T35 t286 x7_1).f0) ((rd_T35 t286 x7_1).f1) ((rd_T35 t286 x7_1).f2) ((rd_T35 t286 x7_1).f3) t297 _ A47.out).mono ?_); rintro e w59 ⟨rfl, hb⟩; refine ⟨_, rfl, ?_⟩; have n0_ := Aside0.mk (Kd.R_below (by (with_reducible repeat (first | apply Kd.R_alloc | apply Kd.R_drewN | apply Kd.R_drew)); exact HO_3.out) hb); have n1_ := Aside0.mk (below_step (by repeat (first | (with_reducible first | exact HB.out | apply below_alloc | apply pw_below_drewN | apply below_drew1) | exact HB.out)) hb); clear HO_3; clear HB; have HO_3 := n0_; have HB := n1_; clear n0_ n1_; (try clear hb); (try clear hb2); (try clear hk); (try clear hi)))
                                                  go_ret
                                                  exact ⟨by first | rfl | (simp [errW_none, errW_some] <;> rfl) | (simp [*, errW_none, errW_some] <;> rfl), by repeat (first | (with_reducible first | exact HB.out | apply below_alloc | apply pw_below_drewN | apply below_drew1) | exact HB.out)⟩
                                              · rw [if_neg c56] at H
                                                exact absurd H (by simp)
                                            · rw [if_neg c55] at H
                                              exact absurd H (by simp)
                                          · rw [if_neg c54] at H
                                            exact absurd H (by simp)
                                  · rw [if_neg c46] at H
                                    exact absurd H (by simp)
                                · rw [if_neg c45] at H
                                  exact absurd H (by simp)
            · rw [if_neg c10] at H
              have c10b0 : decide (x7_1 ≤ (t286.length : Int)) = false := decide_eq_false c10
              clear c10
              obtain rfl := Option.some.inj H
              obtain ⟨Ao60, co60, eo60⟩ := Kd.R_slice HO_3.out
              subst eo60
              go_wp2
              go_ret
              exact ⟨by first | rfl | (simp [errW_none, errW_some] <;> rfl) | (simp [*, errW_none, errW_some] <;> rfl), by repeat (first | (with_reducible first | exact HB.out | apply below_alloc | apply pw_below_drewN | apply below_drew1) | exact HB.out)⟩
      · rw [if_neg c7] at H
        have c7b0 : (t288 == 0) = false := beq_eq_false_iff_ne.mpr c7
        have c7b1 : (t288 != 0) = true := bne_iff_ne.mpr c7
        obtain rfl := Option.some.inj H
        go_enter Tryd.func6, Tryd.ntmps6
        go_wp2_with (first | ((with_reducible refine gate_callee (f := 11) rfl ?_); refine goesL_ (some 11) rfl rfl Tryd.func11 (by kernel_rfl) rfl #[] rfl (by (try simp only [List.map_toArray, List.map_cons, List.map_nil]); first | done | rfl | (simp only [List.length_drop, List.length_take]; rfl)) ?_; (with_reducible refine (testamurlaw09_sane.calls k  true _ ?side1 A2.out).mono ?_); (case side1 => exact Laid.below HLAID.out (by repeat (first | (with_reducible first | exact HB.out | apply below_alloc | apply pw_below_drewN | apply below_drew1) | exact HB.out))); rintro e w61 ⟨rfl, hb⟩; refine ⟨_, rfl, ?_⟩; have n0_ := Aside0.mk (below_step (by repeat (first | (with_reducible first | exact HB.out | apply below_alloc | apply pw_below_drewN | apply below_drew1) | exact HB.out)) hb); clear HB; have HB := n0_; clear n0_; (try clear hb); (try clear hb2); (try clear hk); (try clear hi)) | ((with_reducible refine gate_callee (f := 12) rfl ?_); refine goesL_ (some 18) rfl rfl Tryd.func12 (by kernel_rfl) rfl #[.string a0] rfl (by (try simp only [List.map_toArray, List.map_cons, List.map_nil]); first | done | rfl | (simp only [List.length_drop, List.length_take]; rfl)) ?_; (with_reducible refine (lex_Lex.calls a0 t286 t287 t288 _ ?side1 A6.out).mono ?_); (case side1 => exact Laid.below HLAID.out (by repeat (first | (with_reducible first | exact HB.out | apply below_alloc | apply pw_below_drewN | apply below_drew1) | exact HB.out))); rintro e w62 ⟨v289, rfl, ho0, hb⟩; refine ⟨_, rfl, ?_⟩; have n0_ := Aside0.mk (Kd.R_lower ho0 (below_size (by repeat (first | (with_reducible first | exact HB.out | apply below_alloc | apply pw_below_drewN | apply below_drew1) | exact HB.out)))); have n1_ := Aside0.mk (below_step (by repeat (first | (with_reducible first | exact HB.out | apply below_alloc | apply pw_below_drewN | apply below_drew1) | exact HB.out)) hb); clear HB; have HO290 := n0_; have HB := n1_; clear n0_ n1_; (try clear hb); (try clear hb2); (try clear hk); (try clear hi); (try clear ho0); obtain ⟨Ao63, co63, eo63⟩ := Kd.R_slice HO290.out; subst eo63))
        go_ret
        exact ⟨by first | rfl | (simp [errW_none, errW_some] <;> rfl) | (simp [*, errW_none, errW_some] <;> rfl), by repeat (first | (with_reducible first | exact HB.out | apply below_alloc | apply pw_below_drewN | apply below_drew1) | exact HB.out)⟩
  · replace c3 := Bool.eq_false_iff.mpr c3
    subst c3
    have H1 : (some false) = some r := by rw [if_neg (show ¬ (false = true) by decide)] at H; exact H
    clear H
    have H := H1
    clear H1
    obtain rfl := Option.some.inj H
    go_enter Tryd.func6, Tryd.ntmps6
    go_wp2_with (first | ((with_reducible refine gate_callee (f := 11) rfl ?_); refine goesL_ (some 11) rfl rfl Tryd.func11 (by kernel_rfl) rfl #[] rfl (by (try simp only [List.map_toArray, List.map_cons, List.map_nil]); first | done | rfl | (simp only [List.length_drop, List.length_take]; rfl)) ?_; (with_reducible refine (testamurlaw09_sane.calls k  false _ ?side1 A2.out).mono ?_); (case side1 => exact Laid.below HLAID.out (by repeat (first | (with_reducible first | exact HB.out | apply below_alloc | apply pw_below_drewN | apply below_drew1) | exact HB.out))); rintro e w64 ⟨rfl, hb⟩; refine ⟨_, rfl, ?_⟩; have n0_ := Aside0.mk (below_step (by repeat (first | (with_reducible first | exact HB.out | apply below_alloc | apply pw_below_drewN | apply below_drew1) | exact HB.out)) hb); clear HB; have HB := n0_; clear n0_; (try clear hb); (try clear hb2); (try clear hk); (try clear hi)))
    go_ret
    exact ⟨by first | rfl | (simp [errW_none, errW_some] <;> rfl) | (simp [*, errW_none, errW_some] <;> rfl), by repeat (first | (with_reducible first | exact HB.out | apply below_alloc | apply pw_below_drewN | apply below_drew1) | exact HB.out)⟩

end Go.Proofs.YtpgjacoinldfhaaDoor.Q
