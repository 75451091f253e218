/- What some functions of the translation compute, as plain Lean functions, and that the calls compute it. Written by a program of the session, out of the translation, by way of the kit's print; Lean checks it. -/
import Derived.Test.YtpgjacoinldfhaaDoorQ0
import Derived.Test.YtpgjacoinldfhaaDoorQ1
import Derived.Test.YtpgjacoinldfhaaDoorQ3
import Derived.Test.YtpgjacoinldfhaaDoorQ4
import Derived.Test.YtpgjacoinldfhaaDoorHLex
import Derived.Test.YtpgjacoinldfhaaDoorHSame
namespace Go.Proofs.YtpgjacoinldfhaaDoor.Q
open Go.RowKit Go.Proofs.YtpgjacoinldfhaaDoorW.PrintWords Go.Proofs.YtpgjacoinldfhaaDoorW.PrintLast Go.Proofs.YtpgjacoinldfhaaDoorW.PrintMore
attribute [local go_sem] max2_int min2_int max_two min_two max_three min_three max_four min_four   -- for this text's walks alone
set_option linter.unusedVariables false
set_option linter.unusedSimpArgs false

/-! ### testamurlaw09_sane: function 11 -/
def testamurlaw09_sane.j0 : Nat → List (S35) → List (S35) → List (S35) → List (S35) → List (S35) → ByteArray → Bool → Option (Bool)
  | 0, _, _, _, _, _, _, _ => none
  | k + 1, x1, x4, x8, x11, x17, x20, x127 => if x127 = true then (some false) else ((testamurref09_Equal.f k x1 x4).bind fun t175 => (if t175 = true then (if (x8.length : Int) = 1 then (if 0 < (x8.length : Int) then (if ((rd_T35 x8 0).f2) = 1099511627776 then (if (x11.length : Int) = 1 then (if 0 < (x11.length : Int) then (if ((rd_T35 x11 0).f1).toList = ([97] : List UInt8) then (if x20.toList = ([97, 32, 61, 32, 49] : List UInt8) then ((lex_Name.f k (⟨#[66, 95, 49, 50]⟩ : ByteArray)).bind fun t178 => (if t178 = true then ((lex_Name.f k (⟨#[95, 49, 50]⟩ : ByteArray)).bind fun t179 => (if t179 = true then (some false) else ((lex_Same.f x11 x17).bind fun t180 => (if t180 = true then (some false) else ((lex_Same.f x11 (([(⟨1, (⟨#[97]⟩ : ByteArray), 0, 9⟩ : S35)] : List (S35)))).bind fun t184 => (some t184)))))) else (some false))) else (some false)) else (some false)) else (none)) else (some false)) else (some false)) else (none)) else (some false)) else (some false)))
def testamurlaw09_sane.f (k : Nat)  : Option (Bool) := (lex_Lex.f (⟨#[101, 97, 114, 110, 32, 51, 48, 59]⟩ : ByteArray)).bind fun bt130 => ((some (([(⟨1, (⟨#[101, 97, 114, 110]⟩ : ByteArray), 0, 0⟩ : S35), (⟨2, (⟨#[]⟩ : ByteArray), 30, 5⟩ : S35), (⟨3, (⟨#[59]⟩ : ByteArray), 0, 7⟩ : S35)] : List (S35)) : List (S35))).bind fun y135 => ((lex_Lex.f (⟨#[48, 48, 55]⟩ : ByteArray)).bind fun bt138 => ((lex_Lex.f (⟨#[49, 48, 57, 57, 53, 49, 49, 54, 50, 55, 55, 55, 54]⟩ : ByteArray)).bind fun bt143 => ((lex_Lex.f (⟨#[97, 32, 47, 47, 32, 98]⟩ : ByteArray)).bind fun bt148 => ((lex_Lex.f (⟨#[97, 32, 36]⟩ : ByteArray)).bind fun bt153 => ((lex_Lex.f (⟨#[97, 61, 49]⟩ : ByteArray)).bind fun bt158 => ((lex_Text.f k bt158.1).bind fun bt163 => ((lex_Lex.f (⟨#[]⟩ : ByteArray)).bind fun bt165 => ((lex_Text.f k (([(⟨0, (⟨#[]⟩ : ByteArray), 0, 0⟩ : S35)] : List (S35)))).bind fun bt173 => (if bt130.2.1 = 0 then (if bt130.2.2 = 0 then (if bt138.2.2 = 90 then (if bt138.2.1 = 0 then (if bt143.2.2 = 0 then (if bt148.2.2 = 0 then (if bt153.2.2 = 90 then (if bt153.2.1 = 2 then (if bt158.2.2 = 0 then (if bt163.2 = 0 then (if bt165.2.2 = 0 then (if bt173.2 = 90 then (testamurlaw09_sane.j0 k bt130.1 y135 bt143.1 bt148.1 bt158.1 bt163.1 ((bt165.1.length : Int) != 0)) else (testamurlaw09_sane.j0 k bt130.1 y135 bt143.1 bt148.1 bt158.1 bt163.1 true)) else (testamurlaw09_sane.j0 k bt130.1 y135 bt143.1 bt148.1 bt158.1 bt163.1 true)) else (testamurlaw09_sane.j0 k bt130.1 y135 bt143.1 bt148.1 bt158.1 bt163.1 true)) else (testamurlaw09_sane.j0 k bt130.1 y135 bt143.1 bt148.1 bt158.1 bt163.1 true)) else (testamurlaw09_sane.j0 k bt130.1 y135 bt143.1 bt148.1 bt158.1 bt163.1 true)) else (testamurlaw09_sane.j0 k bt130.1 y135 bt143.1 bt148.1 bt158.1 bt163.1 true)) else (testamurlaw09_sane.j0 k bt130.1 y135 bt143.1 bt148.1 bt158.1 bt163.1 true)) else (testamurlaw09_sane.j0 k bt130.1 y135 bt143.1 bt148.1 bt158.1 bt163.1 true)) else (testamurlaw09_sane.j0 k bt130.1 y135 bt143.1 bt148.1 bt158.1 bt163.1 true)) else (testamurlaw09_sane.j0 k bt130.1 y135 bt143.1 bt148.1 bt158.1 bt163.1 true)) else (testamurlaw09_sane.j0 k bt130.1 y135 bt143.1 bt148.1 bt158.1 bt163.1 true)) else (testamurlaw09_sane.j0 k bt130.1 y135 bt143.1 bt148.1 bt158.1 bt163.1 true)))))))))))
theorem testamurlaw09_sane.mono_l : ∀ k, (∀ y0 y1 y2 y3 y4 y5 y6, LeO (testamurlaw09_sane.j0 k y0 y1 y2 y3 y4 y5 y6) (testamurlaw09_sane.j0 (k + 1) y0 y1 y2 y3 y4 y5 y6))
  | 0 => fun _ _ _ _ _ _ _ r h => by simp [testamurlaw09_sane.j0] at h
  | k + 1 => by
    have ih0 := testamurlaw09_sane.mono_l k
    · intro y0 y1 y2 y3 y4 y5 y6
      unfold testamurlaw09_sane.j0
      repeat' first
      | (with_reducible exact ih0 _ _ _ _ _ _ _)
      | (with_reducible exact lex_Name.mono _ _)
      | (with_reducible exact lex_Text.mono _ _)
      | (with_reducible exact testamurref09_Equal.mono _ _ _)
      | (with_reducible exact LeO.refl _)
      | (with_reducible exact LeO.none _)
      | (with_reducible refine LeO.ite ?_ ?_)
      | (with_reducible refine LeO.bind ?_ (fun _ => ?_))
      | exact ih0 _ _ _ _ _ _ _
      | exact lex_Name.mono _ _
      | exact lex_Text.mono _ _
      | exact testamurref09_Equal.mono _ _ _
      | exact LeO.none _
      | refine LeO.ite ?_ ?_
      | refine LeO.bind ?_ (fun _ => ?_)
theorem testamurlaw09_sane.mono : ∀ k, LeO (testamurlaw09_sane.f k ) (testamurlaw09_sane.f (k + 1) ) := by
  intro  k
  have ih0 := testamurlaw09_sane.mono_l k
  unfold testamurlaw09_sane.f
  repeat' first
      | (with_reducible exact ih0 _ _ _ _ _ _ _)
      | (with_reducible exact lex_Name.mono _ _)
      | (with_reducible exact lex_Text.mono _ _)
      | (with_reducible exact testamurref09_Equal.mono _ _ _)
      | (with_reducible exact LeO.refl _)
      | (with_reducible exact LeO.none _)
      | (with_reducible refine LeO.ite ?_ ?_)
      | (with_reducible refine LeO.bind ?_ (fun _ => ?_))
      | exact ih0 _ _ _ _ _ _ _
      | exact lex_Name.mono _ _
      | exact lex_Text.mono _ _
      | exact testamurref09_Equal.mono _ _ _
      | exact LeO.none _
      | refine LeO.ite ?_ ?_
      | refine LeO.bind ?_ (fun _ => ?_)
set_option maxHeartbeats 8000000 in
set_option maxRecDepth 100000 in
theorem testamurlaw09_sane.calls (k : Nat)  (r : Bool) (w : World) (hL_ : Laid w) (h : testamurlaw09_sane.f k  = some r) :
    Calls Tryd.prog 11 #[] w fun e w' => e = .returned (.bool r) ∧ Below w.heap.size w w' := by
  have HLAID := Aside0.mk hL_
  clear hL_
  have hu35 := Tryd.underlying35
  have HB := Aside0.mk (Below.refl w.heap.size w)
  have H : ((lex_Lex.f (⟨#[101, 97, 114, 110, 32, 51, 48, 59]⟩ : ByteArray)).bind fun bt130 => ((some (([(⟨1, (⟨#[101, 97, 114, 110]⟩ : ByteArray), 0, 0⟩ : S35), (⟨2, (⟨#[]⟩ : ByteArray), 30, 5⟩ : S35), (⟨3, (⟨#[59]⟩ : ByteArray), 0, 7⟩ : S35)] : List (S35)) : List (S35))).bind fun y135 => ((lex_Lex.f (⟨#[48, 48, 55]⟩ : ByteArray)).bind fun bt138 => ((lex_Lex.f (⟨#[49, 48, 57, 57, 53, 49, 49, 54, 50, 55, 55, 55, 54]⟩ : ByteArray)).bind fun bt143 => ((lex_Lex.f (⟨#[97, 32, 47, 47, 32, 98]⟩ : ByteArray)).bind fun bt148 => ((lex_Lex.f (⟨#[97, 32, 36]⟩ : ByteArray)).bind fun bt153 => ((lex_Lex.f (⟨#[97, 61, 49]⟩ : ByteArray)).bind fun bt158 => ((lex_Text.f k bt158.1).bind fun bt163 => ((lex_Lex.f (⟨#[]⟩ : ByteArray)).bind fun bt165 => ((lex_Text.f k (([(⟨0, (⟨#[]⟩ : ByteArray), 0, 0⟩ : S35)] : List (S35)))).bind fun bt173 => (if bt130.2.1 = 0 then (if bt130.2.2 = 0 then (if bt138.2.2 = 90 then (if bt138.2.1 = 0 then (if bt143.2.2 = 0 then (if bt148.2.2 = 0 then (if bt153.2.2 = 90 then (if bt153.2.1 = 2 then (if bt158.2.2 = 0 then (if bt163.2 = 0 then (if bt165.2.2 = 0 then (if bt173.2 = 90 then (testamurlaw09_sane.j0 k bt130.1 y135 bt143.1 bt148.1 bt158.1 bt163.1 ((bt165.1.length : Int) != 0)) else (testamurlaw09_sane.j0 k bt130.1 y135 bt143.1 bt148.1 bt158.1 bt163.1 true)) else (testamurlaw09_sane.j0 k bt130.1 y135 bt143.1 bt148.1 bt158.1 bt163.1 true)) else (testamurlaw09_sane.j0 k bt130.1 y135 bt143.1 bt148.1 bt158.1 bt163.1 true)) else (testamurlaw09_sane.j0 k bt130.1 y135 bt143.1 bt148.1 bt158.1 bt163.1 true)) else (testamurlaw09_sane.j0 k bt130.1 y135 bt143.1 bt148.1 bt158.1 bt163.1 true)) else (testamurlaw09_sane.j0 k bt130.1 y135 bt143.1 bt148.1 bt158.1 bt163.1 true)) else (testamurlaw09_sane.j0 k bt130.1 y135 bt143.1 bt148.1 bt158.1 bt163.1 true)) else (testamurlaw09_sane.j0 k bt130.1 y135 bt143.1 bt148.1 bt158.1 bt163.1 true)) else (testamurlaw09_sane.j0 k bt130.1 y135 bt143.1 bt148.1 bt158.1 bt163.1 true)) else (testamurlaw09_sane.j0 k bt130.1 y135 bt143.1 bt148.1 bt158.1 bt163.1 true)) else (testamurlaw09_sane.j0 k bt130.1 y135 bt143.1 bt148.1 bt158.1 bt163.1 true)) else (testamurlaw09_sane.j0 k bt130.1 y135 bt143.1 bt148.1 bt158.1 bt163.1 true)))))))))))) = some r := h
  clear h
  replace H := Option.bind_eq_some_iff.mp H
  obtain ⟨⟨t130, t131, t132⟩, A10, H⟩ := H
  replace H : ((some (([(⟨1, (⟨#[101, 97, 114, 110]⟩ : ByteArray), 0, 0⟩ : S35), (⟨2, (⟨#[]⟩ : ByteArray), 30, 5⟩ : S35), (⟨3, (⟨#[59]⟩ : ByteArray), 0, 7⟩ : S35)] : List (S35)) : List (S35))).bind fun y135 => ((lex_Lex.f (⟨#[48, 48, 55]⟩ : ByteArray)).bind fun bt138 => ((lex_Lex.f (⟨#[49, 48, 57, 57, 53, 49, 49, 54, 50, 55, 55, 55, 54]⟩ : ByteArray)).bind fun bt143 => ((lex_Lex.f (⟨#[97, 32, 47, 47, 32, 98]⟩ : ByteArray)).bind fun bt148 => ((lex_Lex.f (⟨#[97, 32, 36]⟩ : ByteArray)).bind fun bt153 => ((lex_Lex.f (⟨#[97, 61, 49]⟩ : ByteArray)).bind fun bt158 => ((lex_Text.f k bt158.1).bind fun bt163 => ((lex_Lex.f (⟨#[]⟩ : ByteArray)).bind fun bt165 => ((lex_Text.f k (([(⟨0, (⟨#[]⟩ : ByteArray), 0, 0⟩ : S35)] : List (S35)))).bind fun bt173 => (if t131 = 0 then (if t132 = 0 then (if bt138.2.2 = 90 then (if bt138.2.1 = 0 then (if bt143.2.2 = 0 then (if bt148.2.2 = 0 then (if bt153.2.2 = 90 then (if bt153.2.1 = 2 then (if bt158.2.2 = 0 then (if bt163.2 = 0 then (if bt165.2.2 = 0 then (if bt173.2 = 90 then (testamurlaw09_sane.j0 k t130 y135 bt143.1 bt148.1 bt158.1 bt163.1 ((bt165.1.length : Int) != 0)) else (testamurlaw09_sane.j0 k t130 y135 bt143.1 bt148.1 bt158.1 bt163.1 true)) else (testamurlaw09_sane.j0 k t130 y135 bt143.1 bt148.1 bt158.1 bt163.1 true)) else (testamurlaw09_sane.j0 k t130 y135 bt143.1 bt148.1 bt158.1 bt163.1 true)) else (testamurlaw09_sane.j0 k t130 y135 bt143.1 bt148.1 bt158.1 bt163.1 true)) else (testamurlaw09_sane.j0 k t130 y135 bt143.1 bt148.1 bt158.1 bt163.1 true)) else (testamurlaw09_sane.j0 k t130 y135 bt143.1 bt148.1 bt158.1 bt163.1 true)) else (testamurlaw09_sane.j0 k t130 y135 bt143.1 bt148.1 bt158.1 bt163.1 true)) else (testamurlaw09_sane.j0 k t130 y135 bt143.1 bt148.1 bt158.1 bt163.1 true)) else (testamurlaw09_sane.j0 k t130 y135 bt143.1 bt148.1 bt158.1 bt163.1 true)) else (testamurlaw09_sane.j0 k t130 y135 bt143.1 bt148.1 bt158.1 bt163.1 true)) else (testamurlaw09_sane.j0 k t130 y135 bt143.1 bt148.1 bt158.1 bt163.1 true)) else (testamurlaw09_sane.j0 k t130 y135 bt143.1 bt148.1 bt158.1 bt163.1 true))))))))))) = some r := H
  have A1 := Aside0.mk A10
  clear A10
  obtain ⟨y135, hy135⟩ : ∃ y_ : List (S35), y_ = (([(⟨1, (⟨#[101, 97, 114, 110]⟩ : ByteArray), 0, 0⟩ : S35), (⟨2, (⟨#[]⟩ : ByteArray), 30, 5⟩ : S35), (⟨3, (⟨#[59]⟩ : ByteArray), 0, 7⟩ : S35)] : List (S35))) := ⟨_, rfl⟩
  replace H : ((lex_Lex.f (⟨#[48, 48, 55]⟩ : ByteArray)).bind fun bt138 => ((lex_Lex.f (⟨#[49, 48, 57, 57, 53, 49, 49, 54, 50, 55, 55, 55, 54]⟩ : ByteArray)).bind fun bt143 => ((lex_Lex.f (⟨#[97, 32, 47, 47, 32, 98]⟩ : ByteArray)).bind fun bt148 => ((lex_Lex.f (⟨#[97, 32, 36]⟩ : ByteArray)).bind fun bt153 => ((lex_Lex.f (⟨#[97, 61, 49]⟩ : ByteArray)).bind fun bt158 => ((lex_Text.f k bt158.1).bind fun bt163 => ((lex_Lex.f (⟨#[]⟩ : ByteArray)).bind fun bt165 => ((lex_Text.f k (([(⟨0, (⟨#[]⟩ : ByteArray), 0, 0⟩ : S35)] : List (S35)))).bind fun bt173 => (if t131 = 0 then (if t132 = 0 then (if bt138.2.2 = 90 then (if bt138.2.1 = 0 then (if bt143.2.2 = 0 then (if bt148.2.2 = 0 then (if bt153.2.2 = 90 then (if bt153.2.1 = 2 then (if bt158.2.2 = 0 then (if bt163.2 = 0 then (if bt165.2.2 = 0 then (if bt173.2 = 90 then (testamurlaw09_sane.j0 k t130 y135 bt143.1 bt148.1 bt158.1 bt163.1 ((bt165.1.length : Int) != 0)) else (testamurlaw09_sane.j0 k t130 y135 bt143.1 bt148.1 bt158.1 bt163.1 true)) else (testamurlaw09_sane.j0 k t130 y135 bt143.1 bt148.1 bt158.1 bt163.1 true)) else (testamurlaw09_sane.j0 k t130 y135 bt143.1 bt148.1 bt158.1 bt163.1 true)) else (testamurlaw09_sane.j0 k t130 y135 bt143.1 bt148.1 bt158.1 bt163.1 true)) else (testamurlaw09_sane.j0 k t130 y135 bt143.1 bt148.1 bt158.1 bt163.1 true)) else (testamurlaw09_sane.j0 k t130 y135 bt143.1 bt148.1 bt158.1 bt163.1 true)) else (testamurlaw09_sane.j0 k t130 y135 bt143.1 bt148.1 bt158.1 bt163.1 true)) else (testamurlaw09_sane.j0 k t130 y135 bt143.1 bt148.1 bt158.1 bt163.1 true)) else (testamurlaw09_sane.j0 k t130 y135 bt143.1 bt148.1 bt158.1 bt163.1 true)) else (testamurlaw09_sane.j0 k t130 y135 bt143.1 bt148.1 bt158.1 bt163.1 true)) else (testamurlaw09_sane.j0 k t130 y135 bt143.1 bt148.1 bt158.1 bt163.1 true)) else (testamurlaw09_sane.j0 k t130 y135 bt143.1 bt148.1 bt158.1 bt163.1 true)))))))))) = some r := by first | (rw [hy135]; with_reducible exact H) | (have H2_ := (Option.bind_some _ _).symm.trans H; rw [hy135]; with_reducible exact H2_) | (have H2_ := (Option.bind_some _ _).symm.trans H; with_reducible exact H2_) | with_reducible exact H | (rw [hy135]; exact H) | exact H
  have Ny135 := Aside0.mk hy135
  clear hy135
  replace H := Option.bind_eq_some_iff.mp H
  obtain ⟨⟨t138, t139, t140⟩, A20, H⟩ := H
  replace H : ((lex_Lex.f (⟨#[49, 48, 57, 57, 53, 49, 49, 54, 50, 55, 55, 55, 54]⟩ : ByteArray)).bind fun bt143 => ((lex_Lex.f (⟨#[97, 32, 47, 47, 32, 98]⟩ : ByteArray)).bind fun bt148 => ((lex_Lex.f (⟨#[97, 32, 36]⟩ : ByteArray)).bind fun bt153 => ((lex_Lex.f (⟨#[97, 61, 49]⟩ : ByteArray)).bind fun bt158 => ((lex_Text.f k bt158.1).bind fun bt163 => ((lex_Lex.f (⟨#[]⟩ : ByteArray)).bind fun bt165 => ((lex_Text.f k (([(⟨0, (⟨#[]⟩ : ByteArray), 0, 0⟩ : S35)] : List (S35)))).bind fun bt173 => (if t131 = 0 then (if t132 = 0 then (if t140 = 90 then (if t139 = 0 then (if bt143.2.2 = 0 then (if bt148.2.2 = 0 then (if bt153.2.2 = 90 then (if bt153.2.1 = 2 then (if bt158.2.2 = 0 then (if bt163.2 = 0 then (if bt165.2.2 = 0 then (if bt173.2 = 90 then (testamurlaw09_sane.j0 k t130 y135 bt143.1 bt148.1 bt158.1 bt163.1 ((bt165.1.length : Int) != 0)) else (testamurlaw09_sane.j0 k t130 y135 bt143.1 bt148.1 bt158.1 bt163.1 true)) else (testamurlaw09_sane.j0 k t130 y135 bt143.1 bt148.1 bt158.1 bt163.1 true)) else (testamurlaw09_sane.j0 k t130 y135 bt143.1 bt148.1 bt158.1 bt163.1 true)) else (testamurlaw09_sane.j0 k t130 y135 bt143.1 bt148.1 bt158.1 bt163.1 true)) else (testamurlaw09_sane.j0 k t130 y135 bt143.1 bt148.1 bt158.1 bt163.1 true)) else (testamurlaw09_sane.j0 k t130 y135 bt143.1 bt148.1 bt158.1 bt163.1 true)) else (testamurlaw09_sane.j0 k t130 y135 bt143.1 bt148.1 bt158.1 bt163.1 true)) else (testamurlaw09_sane.j0 k t130 y135 bt143.1 bt148.1 bt158.1 bt163.1 true)) else (testamurlaw09_sane.j0 k t130 y135 bt143.1 bt148.1 bt158.1 bt163.1 true)) else (testamurlaw09_sane.j0 k t130 y135 bt143.1 bt148.1 bt158.1 bt163.1 true)) else (testamurlaw09_sane.j0 k t130 y135 bt143.1 bt148.1 bt158.1 bt163.1 true)) else (testamurlaw09_sane.j0 k t130 y135 bt143.1 bt148.1 bt158.1 bt163.1 true))))))))) = some r := H
  have A2 := Aside0.mk A20
  clear A20
  replace H := Option.bind_eq_some_iff.mp H
  obtain ⟨⟨t143, t144, t145⟩, A30, H⟩ := H
  replace H : ((lex_Lex.f (⟨#[97, 32, 47, 47, 32, 98]⟩ : ByteArray)).bind fun bt148 => ((lex_Lex.f (⟨#[97, 32, 36]⟩ : ByteArray)).bind fun bt153 => ((lex_Lex.f (⟨#[97, 61, 49]⟩ : ByteArray)).bind fun bt158 => ((lex_Text.f k bt158.1).bind fun bt163 => ((lex_Lex.f (⟨#[]⟩ : ByteArray)).bind fun bt165 => ((lex_Text.f k (([(⟨0, (⟨#[]⟩ : ByteArray), 0, 0⟩ : S35)] : List (S35)))).bind fun bt173 => (if t131 = 0 then (if t132 = 0 then (if t140 = 90 then (if t139 = 0 then (if t145 = 0 then (if bt148.2.2 = 0 then (if bt153.2.2 = 90 then (if bt153.2.1 = 2 then (if bt158.2.2 = 0 then (if bt163.2 = 0 then (if bt165.2.2 = 0 then (if bt173.2 = 90 then (testamurlaw09_sane.j0 k t130 y135 t143 bt148.1 bt158.1 bt163.1 ((bt165.1.length : Int) != 0)) else (testamurlaw09_sane.j0 k t130 y135 t143 bt148.1 bt158.1 bt163.1 true)) else (testamurlaw09_sane.j0 k t130 y135 t143 bt148.1 bt158.1 bt163.1 true)) else (testamurlaw09_sane.j0 k t130 y135 t143 bt148.1 bt158.1 bt163.1 true)) else (testamurlaw09_sane.j0 k t130 y135 t143 bt148.1 bt158.1 bt163.1 true)) else (testamurlaw09_sane.j0 k t130 y135 t143 bt148.1 bt158.1 bt163.1 true)) else (testamurlaw09_sane.j0 k t130 y135 t143 bt148.1 bt158.1 bt163.1 true)) else (testamurlaw09_sane.j0 k t130 y135 t143 bt148.1 bt158.1 bt163.1 true)) else (testamurlaw09_sane.j0 k t130 y135 t143 bt148.1 bt158.1 bt163.1 true)) else (testamurlaw09_sane.j0 k t130 y135 t143 bt148.1 bt158.1 bt163.1 true)) else (testamurlaw09_sane.j0 k t130 y135 t143 bt148.1 bt158.1 bt163.1 true)) else (testamurlaw09_sane.j0 k t130 y135 t143 bt148.1 bt158.1 bt163.1 true)) else (testamurlaw09_sane.j0 k t130 y135 t143 bt148.1 bt158.1 bt163.1 true)))))))) = some r := H
  have A3 := Aside0.mk A30
  clear A30
  replace H := Option.bind_eq_some_iff.mp H
  obtain ⟨⟨t148, t149, t150⟩, A40, H⟩ := H
  replace H : ((lex_Lex.f (⟨#[97, 32, 36]⟩ : ByteArray)).bind fun bt153 => ((lex_Lex.f (⟨#[97, 61, 49]⟩ : ByteArray)).bind fun bt158 => ((lex_Text.f k bt158.1).bind fun bt163 => ((lex_Lex.f (⟨#[]⟩ : ByteArray)).bind fun bt165 => ((lex_Text.f k (([(⟨0, (⟨#[]⟩ : ByteArray), 0, 0⟩ : S35)] : List (S35)))).bind fun bt173 => (if t131 = 0 then (if t132 = 0 then (if t140 = 90 then (if t139 = 0 then (if t145 = 0 then (if t150 = 0 then (if bt153.2.2 = 90 then (if bt153.2.1 = 2 then (if bt158.2.2 = 0 then (if bt163.2 = 0 then (if bt165.2.2 = 0 then (if bt173.2 = 90 then (testamurlaw09_sane.j0 k t130 y135 t143 t148 bt158.1 bt163.1 ((bt165.1.length : Int) != 0)) else (testamurlaw09_sane.j0 k t130 y135 t143 t148 bt158.1 bt163.1 true)) else (testamurlaw09_sane.j0 k t130 y135 t143 t148 bt158.1 bt163.1 true)) else (testamurlaw09_sane.j0 k t130 y135 t143 t148 bt158.1 bt163.1 true)) else (testamurlaw09_sane.j0 k t130 y135 t143 t148 bt158.1 bt163.1 true)) else (testamurlaw09_sane.j0 k t130 y135 t143 t148 bt158.1 bt163.1 true)) else (testamurlaw09_sane.j0 k t130 y135 t143 t148 bt158.1 bt163.1 true)) else (testamurlaw09_sane.j0 k t130 y135 t143 t148 bt158.1 bt163.1 true)) else (testamurlaw09_sane.j0 k t130 y135 t143 t148 bt158.1 bt163.1 true)) else (testamurlaw09_sane.j0 k t130 y135 t143 t148 bt158.1 bt163.1 true)) else (testamurlaw09_sane.j0 k t130 y135 t143 t148 bt158.1 bt163.1 true)) else (testamurlaw09_sane.j0 k t130 y135 t143 t148 bt158.1 bt163.1 true)) else (testamurlaw09_sane.j0 k t130 y135 t143 t148 bt158.1 bt163.1 true))))))) = some r := H
  have A4 := Aside0.mk A40
  clear A40
  replace H := Option.bind_eq_some_iff.mp H
  obtain ⟨⟨t153, t154, t155⟩, A50, H⟩ := H
  replace H : ((lex_Lex.f (⟨#[97, 61, 49]⟩ : ByteArray)).bind fun bt158 => ((lex_Text.f k bt158.1).bind fun bt163 => ((lex_Lex.f (⟨#[]⟩ : ByteArray)).bind fun bt165 => ((lex_Text.f k (([(⟨0, (⟨#[]⟩ : ByteArray), 0, 0⟩ : S35)] : List (S35)))).bind fun bt173 => (if t131 = 0 then (if t132 = 0 then (if t140 = 90 then (if t139 = 0 then (if t145 = 0 then (if t150 = 0 then (if t155 = 90 then (if t154 = 2 then (if bt158.2.2 = 0 then (if bt163.2 = 0 then (if bt165.2.2 = 0 then (if bt173.2 = 90 then (testamurlaw09_sane.j0 k t130 y135 t143 t148 bt158.1 bt163.1 ((bt165.1.length : Int) != 0)) else (testamurlaw09_sane.j0 k t130 y135 t143 t148 bt158.1 bt163.1 true)) else (testamurlaw09_sane.j0 k t130 y135 t143 t148 bt158.1 bt163.1 true)) else (testamurlaw09_sane.j0 k t130 y135 t143 t148 bt158.1 bt163.1 true)) else (testamurlaw09_sane.j0 k t130 y135 t143 t148 bt158.1 bt163.1 true)) else (testamurlaw09_sane.j0 k t130 y135 t143 t148 bt158.1 bt163.1 true)) else (testamurlaw09_sane.j0 k t130 y135 t143 t148 bt158.1 bt163.1 true)) else (testamurlaw09_sane.j0 k t130 y135 t143 t148 bt158.1 bt163.1 true)) else (testamurlaw09_sane.j0 k t130 y135 t143 t148 bt158.1 bt163.1 true)) else (testamurlaw09_sane.j0 k t130 y135 t143 t148 bt158.1 bt163.1 true)) else (testamurlaw09_sane.j0 k t130 y135 t143 t148 bt158.1 bt163.1 true)) else (testamurlaw09_sane.j0 k t130 y135 t143 t148 bt158.1 bt163.1 true)) else (testamurlaw09_sane.j0 k t130 y135 t143 t148 bt158.1 bt163.1 true)))))) = some r := H
  have A5 := Aside0.mk A50
  clear A50
  replace H := Option.bind_eq_some_iff.mp H
  obtain ⟨⟨t158, t159, t160⟩, A60, H⟩ := H
  replace H : ((lex_Text.f k t158).bind fun bt163 => ((lex_Lex.f (⟨#[]⟩ : ByteArray)).bind fun bt165 => ((lex_Text.f k (([(⟨0, (⟨#[]⟩ : ByteArray), 0, 0⟩ : S35)] : List (S35)))).bind fun bt173 => (if t131 = 0 then (if t132 = 0 then (if t140 = 90 then (if t139 = 0 then (if t145 = 0 then (if t150 = 0 then (if t155 = 90 then (if t154 = 2 then (if t160 = 0 then (if bt163.2 = 0 then (if bt165.2.2 = 0 then (if bt173.2 = 90 then (testamurlaw09_sane.j0 k t130 y135 t143 t148 t158 bt163.1 ((bt165.1.length : Int) != 0)) else (testamurlaw09_sane.j0 k t130 y135 t143 t148 t158 bt163.1 true)) else (testamurlaw09_sane.j0 k t130 y135 t143 t148 t158 bt163.1 true)) else (testamurlaw09_sane.j0 k t130 y135 t143 t148 t158 bt163.1 true)) else (testamurlaw09_sane.j0 k t130 y135 t143 t148 t158 bt163.1 true)) else (testamurlaw09_sane.j0 k t130 y135 t143 t148 t158 bt163.1 true)) else (testamurlaw09_sane.j0 k t130 y135 t143 t148 t158 bt163.1 true)) else (testamurlaw09_sane.j0 k t130 y135 t143 t148 t158 bt163.1 true)) else (testamurlaw09_sane.j0 k t130 y135 t143 t148 t158 bt163.1 true)) else (testamurlaw09_sane.j0 k t130 y135 t143 t148 t158 bt163.1 true)) else (testamurlaw09_sane.j0 k t130 y135 t143 t148 t158 bt163.1 true)) else (testamurlaw09_sane.j0 k t130 y135 t143 t148 t158 bt163.1 true)) else (testamurlaw09_sane.j0 k t130 y135 t143 t148 t158 bt163.1 true))))) = some r := H
  have A6 := Aside0.mk A60
  clear A60
  replace H := Option.bind_eq_some_iff.mp H
  obtain ⟨⟨t163, t164⟩, A70, H⟩ := H
  replace H : ((lex_Lex.f (⟨#[]⟩ : ByteArray)).bind fun bt165 => ((lex_Text.f k (([(⟨0, (⟨#[]⟩ : ByteArray), 0, 0⟩ : S35)] : List (S35)))).bind fun bt173 => (if t131 = 0 then (if t132 = 0 then (if t140 = 90 then (if t139 = 0 then (if t145 = 0 then (if t150 = 0 then (if t155 = 90 then (if t154 = 2 then (if t160 = 0 then (if t164 = 0 then (if bt165.2.2 = 0 then (if bt173.2 = 90 then (testamurlaw09_sane.j0 k t130 y135 t143 t148 t158 t163 ((bt165.1.length : Int) != 0)) else (testamurlaw09_sane.j0 k t130 y135 t143 t148 t158 t163 true)) else (testamurlaw09_sane.j0 k t130 y135 t143 t148 t158 t163 true)) else (testamurlaw09_sane.j0 k t130 y135 t143 t148 t158 t163 true)) else (testamurlaw09_sane.j0 k t130 y135 t143 t148 t158 t163 true)) else (testamurlaw09_sane.j0 k t130 y135 t143 t148 t158 t163 true)) else (testamurlaw09_sane.j0 k t130 y135 t143 t148 t158 t163 true)) else (testamurlaw09_sane.j0 k t130 y135 t143 t148 t158 t163 true)) else (testamurlaw09_sane.j0 k t130 y135 t143 t148 t158 t163 true)) else (testamurlaw09_sane.j0 k t130 y135 t143 t148 t158 t163 true)) else (testamurlaw09_sane.j0 k t130 y135 t143 t148 t158 t163 true)) else (testamurlaw09_sane.j0 k t130 y135 t143 t148 t158 t163 true)) else (testamurlaw09_sane.j0 k t130 y135 t143 t148 t158 t163 true)))) = some r := H
  have A7 := Aside0.mk A70
  clear A70
  replace H := Option.bind_eq_some_iff.mp H
  obtain ⟨⟨t165, t166, t167⟩, A80, H⟩ := H
  replace H : ((lex_Text.f k (([(⟨0, (⟨#[]⟩ : ByteArray), 0, 0⟩ : S35)] : List (S35)))).bind fun bt173 => (if t131 = 0 then (if t132 = 0 then (if t140 = 90 then (if t139 = 0 then (if t145 = 0 then (if t150 = 0 then (if t155 = 90 then (if t154 = 2 then (if t160 = 0 then (if t164 = 0 then (if t167 = 0 then (if bt173.2 = 90 then (testamurlaw09_sane.j0 k t130 y135 t143 t148 t158 t163 ((t165.length : Int) != 0)) else (testamurlaw09_sane.j0 k t130 y135 t143 t148 t158 t163 true)) else (testamurlaw09_sane.j0 k t130 y135 t143 t148 t158 t163 true)) else (testamurlaw09_sane.j0 k t130 y135 t143 t148 t158 t163 true)) else (testamurlaw09_sane.j0 k t130 y135 t143 t148 t158 t163 true)) else (testamurlaw09_sane.j0 k t130 y135 t143 t148 t158 t163 true)) else (testamurlaw09_sane.j0 k t130 y135 t143 t148 t158 t163 true)) else (testamurlaw09_sane.j0 k t130 y135 t143 t148 t158 t163 true)) else (testamurlaw09_sane.j0 k t130 y135 t143 t148 t158 t163 true)) else (testamurlaw09_sane.j0 k t130 y135 t143 t148 t158 t163 true)) else (testamurlaw09_sane.j0 k t130 y135 t143 t148 t158 t163 true)) else (testamurlaw09_sane.j0 k t130 y135 t143 t148 t158 t163 true)) else (testamurlaw09_sane.j0 k t130 y135 t143 t148 t158 t163 true))) = some r := H
  have A8 := Aside0.mk A80
  clear A80
  obtain ⟨y170, hy170⟩ : ∃ y_ : List (S35), y_ = (([(⟨0, (⟨#[]⟩ : ByteArray), 0, 0⟩ : S35)] : List (S35))) := ⟨_, rfl⟩
  replace H : ((lex_Text.f k y170).bind fun bt173 => (if t131 = 0 then (if t132 = 0 then (if t140 = 90 then (if t139 = 0 then (if t145 = 0 then (if t150 = 0 then (if t155 = 90 then (if t154 = 2 then (if t160 = 0 then (if t164 = 0 then (if t167 = 0 then (if bt173.2 = 90 then (testamurlaw09_sane.j0 k t130 y135 t143 t148 t158 t163 ((t165.length : Int) != 0)) else (testamurlaw09_sane.j0 k t130 y135 t143 t148 t158 t163 true)) else (testamurlaw09_sane.j0 k t130 y135 t143 t148 t158 t163 true)) else (testamurlaw09_sane.j0 k t130 y135 t143 t148 t158 t163 true)) else (testamurlaw09_sane.j0 k t130 y135 t143 t148 t158 t163 true)) else (testamurlaw09_sane.j0 k t130 y135 t143 t148 t158 t163 true)) else (testamurlaw09_sane.j0 k t130 y135 t143 t148 t158 t163 true)) else (testamurlaw09_sane.j0 k t130 y135 t143 t148 t158 t163 true)) else (testamurlaw09_sane.j0 k t130 y135 t143 t148 t158 t163 true)) else (testamurlaw09_sane.j0 k t130 y135 t143 t148 t158 t163 true)) else (testamurlaw09_sane.j0 k t130 y135 t143 t148 t158 t163 true)) else (testamurlaw09_sane.j0 k t130 y135 t143 t148 t158 t163 true)) else (testamurlaw09_sane.j0 k t130 y135 t143 t148 t158 t163 true))) = some r := by first | (rw [hy170]; with_reducible exact H) | (have H2_ := (Option.bind_some _ _).symm.trans H; rw [hy170]; with_reducible exact H2_) | (have H2_ := (Option.bind_some _ _).symm.trans H; with_reducible exact H2_) | with_reducible exact H | (rw [hy170]; exact H) | exact H
  have Ny170 := Aside0.mk hy170
  clear hy170
  replace H := Option.bind_eq_some_iff.mp H
  obtain ⟨⟨t173, t174⟩, A90, H⟩ := H
  replace H : (if t131 = 0 then (if t132 = 0 then (if t140 = 90 then (if t139 = 0 then (if t145 = 0 then (if t150 = 0 then (if t155 = 90 then (if t154 = 2 then (if t160 = 0 then (if t164 = 0 then (if t167 = 0 then (if t174 = 90 then (testamurlaw09_sane.j0 k t130 y135 t143 t148 t158 t163 ((t165.length : Int) != 0)) else (testamurlaw09_sane.j0 k t130 y135 t143 t148 t158 t163 true)) else (testamurlaw09_sane.j0 k t130 y135 t143 t148 t158 t163 true)) else (testamurlaw09_sane.j0 k t130 y135 t143 t148 t158 t163 true)) else (testamurlaw09_sane.j0 k t130 y135 t143 t148 t158 t163 true)) else (testamurlaw09_sane.j0 k t130 y135 t143 t148 t158 t163 true)) else (testamurlaw09_sane.j0 k t130 y135 t143 t148 t158 t163 true)) else (testamurlaw09_sane.j0 k t130 y135 t143 t148 t158 t163 true)) else (testamurlaw09_sane.j0 k t130 y135 t143 t148 t158 t163 true)) else (testamurlaw09_sane.j0 k t130 y135 t143 t148 t158 t163 true)) else (testamurlaw09_sane.j0 k t130 y135 t143 t148 t158 t163 true)) else (testamurlaw09_sane.j0 k t130 y135 t143 t148 t158 t163 true)) else (testamurlaw09_sane.j0 k t130 y135 t143 t148 t158 t163 true)) = some r := H
  have A9 := Aside0.mk A90
  clear A90
  have HC10 := Aside0.mk H
  clear H
  go_enter Tryd.func11, Tryd.ntmps11
  go_upto_region 11 with (first | ((with_reducible refine gate_callee (f := 12) rfl ?_); refine goesL_ (some 28) rfl rfl Tryd.func12 (by kernel_rfl) rfl #[.string (⟨#[101, 97, 114, 110, 32, 51, 48, 59]⟩ : ByteArray)] rfl (by (try simp only [List.map_toArray, List.map_cons, List.map_nil]); first | done | rfl | (simp only [List.length_drop, List.length_take]; rfl)) ?_; (with_reducible refine (lex_Lex.calls (⟨#[101, 97, 114, 110, 32, 51, 48, 59]⟩ : ByteArray) t130 t131 t132 _ ?side1 A1.out).mono ?_); (case side1 => exact Laid.below HLAID.out (by repeat (first | (with_reducible first | exact HB.out | apply below_alloc | apply pw_below_drewN | apply below_drew1) | exact HB.out))); rintro e w11 ⟨v133, rfl, ho0, hb⟩; refine ⟨_, rfl, ?_⟩; have n0_ := Aside0.mk (Kd.R_lower ho0 (below_size (by repeat (first | (with_reducible first | exact HB.out | apply below_alloc | apply pw_below_drewN | apply below_drew1) | exact HB.out)))); have n1_ := Aside0.mk (below_step (by repeat (first | (with_reducible first | exact HB.out | apply below_alloc | apply pw_below_drewN | apply below_drew1) | exact HB.out)) hb); clear HB; have HO134 := n0_; have HB := n1_; clear n0_ n1_; (try clear hb); (try clear hb2); (try clear hk); (try clear hi); (try clear ho0)) | ((with_reducible refine gate_dst (N := 35) rfl ?_); (try (refine gate_guard (by rfl) ?_; dsimp only)); refine Kd.R_lit k35 _ 35 ?hg (N := 35) ?hd (xs := ([(⟨1, (⟨#[101, 97, 114, 110]⟩ : ByteArray), 0, 0⟩ : S35), (⟨2, (⟨#[]⟩ : ByteArray), 30, 5⟩ : S35), (⟨3, (⟨#[59]⟩ : ByteArray), 0, 7⟩ : S35)] : List (S35))) (inner := [.int .i64 1, .string (⟨#[101, 97, 114, 110]⟩ : ByteArray), .int .i64 0, .int .i64 0, .int .i64 2, .string (⟨#[]⟩ : ByteArray), .int .i64 30, .int .i64 5, .int .i64 3, .string (⟨#[59]⟩ : ByteArray), .int .i64 0, .int .i64 7]) (ok := fun _ => True) (okp := fun _ => True) ?hr ?hp (fun _ hk => hk) trivial (Below.refl _ _) (Nat.le_refl _) (by simp) ?_; (case hd => rfl); (case hg => rfl); (case hr => first | (go_simp; done) | (go_simp; rfl)); (case hp => exact (Reps.c4 (show Kd.M k35 _ _ _ (⟨1, (⟨#[101, 97, 114, 110]⟩ : ByteArray), 0, 0⟩ : S35) [.int .i64 1, .string (⟨#[101, 97, 114, 110]⟩ : ByteArray), .int .i64 0, .int .i64 0] from (k35_mkM _ _ _ (⟨1, (⟨#[101, 97, 114, 110]⟩ : ByteArray), 0, 0⟩ : S35) )) (Reps.c4 (show Kd.M k35 _ _ _ (⟨2, (⟨#[]⟩ : ByteArray), 30, 5⟩ : S35) [.int .i64 2, .string (⟨#[]⟩ : ByteArray), .int .i64 30, .int .i64 5] from (k35_mkM _ _ _ (⟨2, (⟨#[]⟩ : ByteArray), 30, 5⟩ : S35) )) (Reps.c4 (show Kd.M k35 _ _ _ (⟨3, (⟨#[59]⟩ : ByteArray), 0, 7⟩ : S35) [.int .i64 3, .string (⟨#[59]⟩ : ByteArray), .int .i64 0, .int .i64 7] from (k35_mkM _ _ _ (⟨3, (⟨#[59]⟩ : ByteArray), 0, 7⟩ : S35) )) (Reps.none _ _))))); intro v136 w12 ho13 hb hg_ hnew_; clear hg_ hnew_; (first | rw [← Ny135.out] at ho13 | (simp only [Int.reduceToNat] at ho13; rw [← Ny135.out] at ho13)); have n0_ := Aside0.mk (Kd.R_elder' (by (with_reducible repeat (first | apply Kd.R_alloc | apply Kd.R_drewN | apply Kd.R_drew)); exact HO134.out) (Kd.R_base ho13) hb); have n1_ := Aside0.mk (Kd.R_lower (Kd.R_new' ho13 (Kd.R_lt (by (with_reducible repeat (first | apply Kd.R_alloc | apply Kd.R_drewN | apply Kd.R_drew)); exact HO134.out))) (below_size (by repeat (first | (with_reducible first | exact HB.out | apply below_alloc | apply pw_below_drewN | apply below_drew1) | exact HB.out)))); have n2_ := Aside0.mk (below_step (by repeat (first | (with_reducible first | exact HB.out | apply below_alloc | apply pw_below_drewN | apply below_drew1) | exact HB.out)) hb); clear HO134; clear HB; have HO134 := n0_; have HO137 := n1_; have HB := n2_; clear n0_ n1_ n2_; clear hb ho13) | ((with_reducible refine gate_callee (f := 12) rfl ?_); refine goesL_ (some 37) rfl rfl Tryd.func12 (by kernel_rfl) rfl #[.string (⟨#[48, 48, 55]⟩ : ByteArray)] rfl (by (try simp only [List.map_toArray, List.map_cons, List.map_nil]); first | done | rfl | (simp only [List.length_drop, List.length_take]; rfl)) ?_; (with_reducible refine (lex_Lex.calls (⟨#[48, 48, 55]⟩ : ByteArray) t138 t139 t140 _ ?side1 A2.out).mono ?_); (case side1 => exact Laid.below HLAID.out (by repeat (first | (with_reducible first | exact HB.out | apply below_alloc | apply pw_below_drewN | apply below_drew1) | exact HB.out))); rintro e w14 ⟨v141, rfl, ho0, hb⟩; refine ⟨_, rfl, ?_⟩; have n0_ := Aside0.mk (Kd.R_elder' (by (with_reducible repeat (first | apply Kd.R_alloc | apply Kd.R_drewN | apply Kd.R_drew)); exact HO134.out) (Kd.R_base ho0) hb); have n1_ := Aside0.mk (Kd.R_elder' (by (with_reducible repeat (first | apply Kd.R_alloc | apply Kd.R_drewN | apply Kd.R_drew)); exact HO137.out) (Kd.R_base ho0) hb); have n2_ := Aside0.mk (Kd.R_lower (Kd.R_new' (Kd.R_new' ho0 (Kd.R_lt (by (with_reducible repeat (first | apply Kd.R_alloc | apply Kd.R_drewN | apply Kd.R_drew)); exact HO134.out))) (Kd.R_lt (by (with_reducible repeat (first | apply Kd.R_alloc | apply Kd.R_drewN | apply Kd.R_drew)); exact HO137.out))) (below_size (by repeat (first | (with_reducible first | exact HB.out | apply below_alloc | apply pw_below_drewN | apply below_drew1) | exact HB.out)))); have n3_ := Aside0.mk (below_step (by repeat (first | (with_reducible first | exact HB.out | apply below_alloc | apply pw_below_drewN | apply below_drew1) | exact HB.out)) hb); clear HO134; clear HO137; clear HB; have HO134 := n0_; have HO137 := n1_; have HO142 := n2_; have HB := n3_; clear n0_ n1_ n2_ n3_; (try clear hb); (try clear hb2); (try clear hk); (try clear hi); (try clear ho0)) | ((with_reducible refine gate_callee (f := 12) rfl ?_); refine goesL_ (some 42) rfl rfl Tryd.func12 (by kernel_rfl) rfl #[.string (⟨#[49, 48, 57, 57, 53, 49, 49, 54, 50, 55, 55, 55, 54]⟩ : ByteArray)] rfl (by (try simp only [List.map_toArray, List.map_cons, List.map_nil]); first | done | rfl | (simp only [List.length_drop, List.length_take]; rfl)) ?_; (with_reducible refine (lex_Lex.calls (⟨#[49, 48, 57, 57, 53, 49, 49, 54, 50, 55, 55, 55, 54]⟩ : ByteArray) t143 t144 t145 _ ?side1 A3.out).mono ?_); (case side1 => exact Laid.below HLAID.out (by repeat (first | (with_reducible first | exact HB.out | apply below_alloc | apply pw_below_drewN | apply below_drew1) | exact HB.out))); rintro e w15 ⟨v146, rfl, ho0, hb⟩; refine ⟨_, rfl, ?_⟩; have n0_ := Aside0.mk (Kd.R_elder' (by (with_reducible repeat (first | apply Kd.R_alloc | apply Kd.R_drewN | apply Kd.R_drew)); exact HO134.out) (Kd.R_base ho0) hb); have n1_ := Aside0.mk (Kd.R_elder' (by (with_reducible repeat (first | apply Kd.R_alloc | apply Kd.R_drewN | apply Kd.R_drew)); exact HO137.out) (Kd.R_base ho0) hb); have n2_ := Aside0.mk (Kd.R_elder' (by (with_reducible repeat (first | apply Kd.R_alloc | apply Kd.R_drewN | apply Kd.R_drew)); exact HO142.out) (Kd.R_base ho0) hb); have n3_ := Aside0.mk (Kd.R_lower (Kd.R_new' (Kd.R_new' (Kd.R_new' ho0 (Kd.R_lt (by (with_reducible repeat (first | apply Kd.R_alloc | apply Kd.R_drewN | apply Kd.R_drew)); exact HO134.out))) (Kd.R_lt (by (with_reducible repeat (first | apply Kd.R_alloc | apply Kd.R_drewN | apply Kd.R_drew)); exact HO137.out))) (Kd.R_lt (by (with_reducible repeat (first | apply Kd.R_alloc | apply Kd.R_drewN | apply Kd.R_drew)); exact HO142.out))) (below_size (by repeat (first | (with_reducible first | exact HB.out | apply below_alloc | apply pw_below_drewN | apply below_drew1) | exact HB.out)))); have n4_ := Aside0.mk (below_step (by repeat (first | (with_reducible first | exact HB.out | apply below_alloc | apply pw_below_drewN | apply below_drew1) | exact HB.out)) hb); clear HO134; clear HO137; clear HO142; clear HB; have HO134 := n0_; have HO137 := n1_; have HO142 := n2_; have HO147 := n3_; have HB := n4_; clear n0_ n1_ n2_ n3_ n4_; (try clear hb); (try clear hb2); (try clear hk); (try clear hi); (try clear ho0)) | ((with_reducible refine gate_callee (f := 12) rfl ?_); refine goesL_ (some 47) rfl rfl Tryd.func12 (by kernel_rfl) rfl #[.string (⟨#[97, 32, 47, 47, 32, 98]⟩ : ByteArray)] rfl (by (try simp only [List.map_toArray, List.map_cons, List.map_nil]); first | done | rfl | (simp only [List.length_drop, List.length_take]; rfl)) ?_; (with_reducible refine (lex_Lex.calls (⟨#[97, 32, 47, 47, 32, 98]⟩ : ByteArray) t148 t149 t150 _ ?side1 A4.out).mono ?_); (case side1 => exact Laid.below HLAID.out (by repeat (first | (with_reducible first | exact HB.out | apply below_alloc | apply pw_below_drewN | apply below_drew1) | exact HB.out))); rintro e w16 ⟨v151, rfl, ho0, hb⟩; refine ⟨_, rfl, ?_⟩; have n0_ := Aside0.mk (Kd.R_elder' (by (with_reducible repeat (first | apply Kd.R_alloc | apply Kd.R_drewN | apply Kd.R_drew)); exact HO134.out) (Kd.R_base ho0) hb); have n1_ := Aside0.mk (Kd.R_elder' (by (with_reducible repeat (first | apply Kd.R_alloc | apply Kd.R_drewN | apply Kd.R_drew)); exact HO137.out) (Kd.R_base ho0) hb); have n2_ := Aside0.mk (Kd.R_elder' (by (with_reducible repeat (first | apply Kd.R_alloc | apply Kd.R_drewN | apply Kd.R_drew)); exact HO142.out) (Kd.R_base ho0) hb); have n3_ := Aside0.mk (Kd.R_elder' (by (with_reducible repeat (first | apply Kd.R_alloc | apply Kd.R_drewN | apply Kd.R_drew)); exact HO147.out) (Kd.R_base ho0) hb); have n4_ := Aside0.mk (Kd.R_lower (Kd.R_new' (Kd.R_new' (Kd.R_new' (Kd.R_new' ho0 (Kd.R_lt (by (with_reducible repeat (first | apply Kd.R_alloc | apply Kd.R_drewN | apply Kd.R_drew)); exact HO134.out))) (Kd.R_lt (by (with_reducible repeat (first | apply Kd.R_alloc | apply Kd.R_drewN | apply Kd.R_drew)); exact HO137.out))) (Kd.R_lt (by (with_reducible repeat (first | apply Kd.R_alloc | apply Kd.R_drewN | apply Kd.R_drew)); exact HO142.out))) (Kd.R_lt (by (with_reducible repeat (first | apply Kd.R_alloc | apply Kd.R_drewN | apply Kd.R_drew)); exact HO147.out))) (below_size (by repeat (first | (with_reducible first | exact HB.out | apply below_alloc | apply pw_below_drewN | apply below_drew1) | exact HB.out)))); have n5_ := Aside0.mk (below_step (by repeat (first | (with_reducible first | exact HB.out | apply below_alloc | apply pw_below_drewN | apply below_drew1) | exact HB.out)) hb); clear HO134; clear HO137; clear HO142; clear HO147; clear HB; have HO134 := n0_; have HO137 := n1_; have HO142 := n2_; have HO147 := n3_; have HO152 := n4_; have HB := n5_; clear n0_ n1_ n2_ n3_ n4_ n5_; (try clear hb); (try clear hb2); (try clear hk); (try clear hi); (try clear ho0)) | ((with_reducible refine gate_callee (f := 12) rfl ?_); refine goesL_ (some 52) rfl rfl Tryd.func12 (by kernel_rfl) rfl #[.string (⟨#[97, 32, 36]⟩ : ByteArray)] rfl (by (try simp only [List.map_toArray, List.map_cons, List.map_nil]); first | done | rfl | (simp only [List.length_drop, List.length_take]; rfl)) ?_; (with_reducible refine (lex_Lex.calls (⟨#[97, 32, 36]⟩ : ByteArray) t153 t154 t155 _ ?side1 A5.out).mono ?_); (case side1 => exact Laid.below HLAID.out (by repeat (first | (with_reducible first | exact HB.out | apply below_alloc | apply pw_below_drewN | apply below_drew1) | exact HB.out))); rintro e w17 ⟨v156, rfl, ho0, hb⟩; refine ⟨_, rfl, ?_⟩; have n0_ := Aside0.mk (Kd.R_elder' (by (with_reducible repeat (first | apply Kd.R_alloc | apply Kd.R_drewN | apply Kd.R_drew)); exact HO134.out) (Kd.R_base ho0) hb); have n1_ := Aside0.mk (Kd.R_elder' (by (with_reducible repeat (first | apply Kd.R_alloc | apply Kd.R_drewN | apply Kd.R_drew)); exact HO137.out) (Kd.R_base ho0) hb); have n2_ := Aside0.mk (Kd.R_elder' (by (with_reducible repeat (first | apply Kd.R_alloc | apply Kd.R_drewN | apply Kd.R_drew)); exact HO142.out) (Kd.R_base ho0) hb); have n3_ := Aside0.mk (Kd.R_elder' (by (with_reducible repeat (first | apply Kd.R_alloc | apply Kd.R_drewN | apply Kd.R_drew)); exact HO147.out) (Kd.R_base ho0) hb); have n4_ := Aside0.mk (Kd.R_elder' (by (with_reducible repeat (first | apply Kd.R_alloc | apply Kd.R_drewN | apply Kd.R_drew)); exact HO152.out) (Kd.R_base ho0) hb); have n5_ := Aside0.mk (Kd.R_lower (Kd.R_new' (Kd.R_new' (Kd.R_new' (Kd.R_new' (Kd.R_new' ho0 (Kd.R_lt (by (with_reducible repeat (first | apply Kd.R_alloc | apply Kd.R_drewN | apply Kd.R_drew)); exact HO134.out))) (Kd.R_lt (by (with_reducible repeat (first | apply Kd.R_alloc | apply Kd.R_drewN | apply Kd.R_drew)); exact HO137.out))) (Kd.R_lt (by (with_reducible repeat (first | apply Kd.R_alloc | apply Kd.R_drewN | apply Kd.R_drew)); exact HO142.out))) (Kd.R_lt (by (with_reducible repeat (first | apply Kd.R_alloc | apply Kd.R_drewN | apply Kd.R_drew)); exact HO147.out))) (Kd.R_lt (by (with_reducible repeat (first | apply Kd.R_alloc | apply Kd.R_drewN | apply Kd.R_drew)); exact HO152.out))) (below_size (by repeat (first | (with_reducible first | exact HB.out | apply below_alloc | apply pw_below_drewN | apply below_drew1) | exact HB.out)))); have n6_ := Aside0.mk (below_step (by repeat (first | (with_reducible first | exact HB.out | apply below_alloc | apply pw_below_drewN | apply below_drew1) | exact HB.out)) hb); clear HO134; clear HO137; clear HO142; clear HO147; clear HO152; clear HB; have HO134 := n0_; have HO137 := n1_; have HO142 := n2_; have HO147 := n3_; have HO152 := n4_; have HO157 := n5_; have HB := n6_; clear n0_ n1_ n2_ n3_ n4_ n5_ n6_; (try clear hb); (try clear hb2); (try clear hk); (try clear hi); (try clear ho0)) | ((with_reducible refine gate_callee (f := 12) rfl ?_); refine goesL_ (some 57) rfl rfl Tryd.func12 (by kernel_rfl) rfl #[.string (⟨#[97, 61, 49]⟩ : ByteArray)] rfl (by (try simp only [List.map_toArray, List.map_cons, List.map_nil]); first | done | rfl | (simp only [List.length_drop, List.length_take]; rfl)) ?_; (with_reducible refine (lex_Lex.calls (⟨#[97, 61, 49]⟩ : ByteArray) t158 t159 t160 _ ?side1 A6.out).mono ?_); (case side1 => exact Laid.below HLAID.out (by repeat (first | (with_reducible first | exact HB.out | apply below_alloc | apply pw_below_drewN | apply below_drew1) | exact HB.out))); rintro e w18 ⟨v161, rfl, ho0, hb⟩; refine ⟨_, rfl, ?_⟩; have n0_ := Aside0.mk (Kd.R_elder' (by (with_reducible repeat (first | apply Kd.R_alloc | apply Kd.R_drewN | apply Kd.R_drew)); exact HO134.out) (Kd.R_base ho0) hb); have n1_ := Aside0.mk (Kd.R_elder' (by (with_reducible repeat (first | apply Kd.R_alloc | apply Kd.R_drewN | apply Kd.R_drew)); exact HO137.out) (Kd.R_base ho0) hb); have n2_ := Aside0.mk (Kd.R_elder' (by (with_reducible repeat (first | apply Kd.R_alloc | apply Kd.R_drewN | apply Kd.R_drew)); exact HO142.out) (Kd.R_base ho0) hb); have n3_ := Aside0.mk (Kd.R_elder' (by (with_reducible repeat (first | apply Kd.R_alloc | apply Kd.R_drewN | apply Kd.R_drew)); exact HO147.out) (Kd.R_base ho0) hb); have n4_ := Aside0.mk (Kd.R_elder' (by (with_reducible repeat (first | apply Kd.R_alloc | apply Kd.R_drewN | apply Kd.R_drew)); exact HO152.out) (Kd.R_base ho0) hb); have n5_ := Aside0.mk (Kd.R_elder' (by (with_reducible repeat (first | apply Kd.R_alloc | apply Kd.R_drewN | apply Kd.R_drew)); exact HO157.out) (Kd.R_base ho0) hb); have n6_ := Aside0.mk (Kd.R_lower (Kd.R_new' (Kd.R_new' (Kd.R_new' (Kd.R_new' (Kd.R_new' (Kd.R_new' ho0 (Kd.R_lt (by (with_reducible repeat (first | apply Kd.R_alloc | apply Kd.R_drewN | apply Kd.R_drew)); exact HO134.out))) (Kd.R_lt (by (with_reducible repeat (first | apply Kd.R_alloc | apply Kd.R_drewN | apply Kd.R_drew)); exact HO137.out))) (Kd.R_lt (by (with_reducible repeat (first | apply Kd.R_alloc | apply Kd.R_drewN | apply Kd.R_drew)); exact HO142.out))) (Kd.R_lt (by (with_reducible repeat (first | apply Kd.R_alloc | apply Kd.R_drewN | apply Kd.R_drew)); exact HO147.out))) (Kd.R_lt (by (with_reducible repeat (first | apply Kd.R_alloc | apply Kd.R_drewN | apply Kd.R_drew)); exact HO152.out))) (Kd.R_lt (by (with_reducible repeat (first | apply Kd.R_alloc | apply Kd.R_drewN | apply Kd.R_drew)); exact HO157.out))) (below_size (by repeat (first | (with_reducible first | exact HB.out | apply below_alloc | apply pw_below_drewN | apply below_drew1) | exact HB.out)))); have n7_ := Aside0.mk (below_step (by repeat (first | (with_reducible first | exact HB.out | apply below_alloc | apply pw_below_drewN | apply below_drew1) | exact HB.out)) hb); clear HO134; clear HO137; clear HO142; clear HO147; clear HO152; clear HO157; clear HB; have HO134 := n0_; have HO137 := n1_; have HO142 := n2_; have HO147 := n3_; have HO152 := n4_; have HO157 := n5_; have HO162 := n6_; have HB := n7_; clear n0_ n1_ n2_ n3_ n4_ n5_ n6_ n7_; (try clear hb); (try clear hb2); (try clear hk); (try clear hi); (try clear ho0); obtain ⟨Ao19, co19, eo19⟩ := Kd.R_slice HO162.out; subst eo19) | ((with_reducible refine gate_callee (f := 16) rfl ?_); refine goesL_ (some 63) rfl rfl Tryd.func16 (by kernel_rfl) rfl #[.slice Ao19 t158.length co19] rfl (by (try simp only [List.map_toArray, List.map_cons, List.map_nil]); first | done | rfl | (simp only [List.length_drop, List.length_take]; rfl)) ?_; (with_reducible refine (lex_Text.calls k _ _ t158 t163 t164 _ ?side3 ?side1 ?side2 A7.out).mono ?_); (case side1 => repeat (first | exact (Kd.R_reads' HO162.out).2.2 | (with_reducible refine Kd.C_alloc ?_ _) | (with_reducible refine Kd.C_drewN ?_ _) | (with_reducible refine Kd.C_drew ?_))); (case side2 => exact (Kd.R_reads' HO162.out).2.1); (case side3 => exact Laid.below HLAID.out (by repeat (first | (with_reducible first | exact HB.out | apply below_alloc | apply pw_below_drewN | apply below_drew1) | exact HB.out))); rintro e w20 ⟨rfl, hb⟩; refine ⟨_, rfl, ?_⟩; have n0_ := Aside0.mk (Kd.R_below (by (with_reducible repeat (first | apply Kd.R_alloc | apply Kd.R_drewN | apply Kd.R_drew)); exact HO134.out) hb); have n1_ := Aside0.mk (Kd.R_below (by (with_reducible repeat (first | apply Kd.R_alloc | apply Kd.R_drewN | apply Kd.R_drew)); exact HO137.out) hb); have n2_ := Aside0.mk (Kd.R_below (by (with_reducible repeat (first | apply Kd.R_alloc | apply Kd.R_drewN | apply Kd.R_drew)); exact HO142.out) hb); have n3_ := Aside0.mk (Kd.R_below (by (with_reducible repeat (first | apply Kd.R_alloc | apply Kd.R_drewN | apply Kd.R_drew)); exact HO147.out) hb); have n4_ := Aside0.mk (Kd.R_below (by (with_reducible repeat (first | apply Kd.R_alloc | apply Kd.R_drewN | apply Kd.R_drew)); exact HO152.out) hb); have n5_ := Aside0.mk (Kd.R_below (by (with_reducible repeat (first | apply Kd.R_alloc | apply Kd.R_drewN | apply Kd.R_drew)); exact HO157.out) hb); have n6_ := Aside0.mk (Kd.R_below (by (with_reducible repeat (first | apply Kd.R_alloc | apply Kd.R_drewN | apply Kd.R_drew)); exact HO162.out) hb); have n7_ := Aside0.mk (below_step (by repeat (first | (with_reducible first | exact HB.out | apply below_alloc | apply pw_below_drewN | apply below_drew1) | exact HB.out)) hb); clear HO134; clear HO137; clear HO142; clear HO147; clear HO152; clear HO157; clear HO162; clear HB; have HO134 := n0_; have HO137 := n1_; have HO142 := n2_; have HO147 := n3_; have HO152 := n4_; have HO157 := n5_; have HO162 := n6_; have HB := n7_; clear n0_ n1_ n2_ n3_ n4_ n5_ n6_ n7_; (try clear hb); (try clear hb2); (try clear hk); (try clear hi)) | ((with_reducible refine gate_callee (f := 12) rfl ?_); refine goesL_ (some 67) rfl rfl Tryd.func12 (by kernel_rfl) rfl #[.string (⟨#[]⟩ : ByteArray)] rfl (by (try simp only [List.map_toArray, List.map_cons, List.map_nil]); first | done | rfl | (simp only [List.length_drop, List.length_take]; rfl)) ?_; (with_reducible refine (lex_Lex.calls (⟨#[]⟩ : ByteArray) t165 t166 t167 _ ?side1 A8.out).mono ?_); (case side1 => exact Laid.below HLAID.out (by repeat (first | (with_reducible first | exact HB.out | apply below_alloc | apply pw_below_drewN | apply below_drew1) | exact HB.out))); rintro e w21 ⟨v168, rfl, ho0, hb⟩; refine ⟨_, rfl, ?_⟩; have n0_ := Aside0.mk (Kd.R_elder' (by (with_reducible repeat (first | apply Kd.R_alloc | apply Kd.R_drewN | apply Kd.R_drew)); exact HO134.out) (Kd.R_base ho0) hb); have n1_ := Aside0.mk (Kd.R_elder' (by (with_reducible repeat (first | apply Kd.R_alloc | apply Kd.R_drewN | apply Kd.R_drew)); exact HO137.out) (Kd.R_base ho0) hb); have n2_ := Aside0.mk (Kd.R_elder' (by (with_reducible repeat (first | apply Kd.R_alloc | apply Kd.R_drewN | apply Kd.R_drew)); exact HO142.out) (Kd.R_base ho0) hb); have n3_ := Aside0.mk (Kd.R_elder' (by (with_reducible repeat (first | apply Kd.R_alloc | apply Kd.R_drewN | apply Kd.R_drew)); exact HO147.out) (Kd.R_base ho0) hb); have n4_ := Aside0.mk (Kd.R_elder' (by (with_reducible repeat (first | apply Kd.R_alloc | apply Kd.R_drewN | apply Kd.R_drew)); exact HO152.out) (Kd.R_base ho0) hb); have n5_ := Aside0.mk (Kd.R_elder' (by (with_reducible repeat (first | apply Kd.R_alloc | apply Kd.R_drewN | apply Kd.R_drew)); exact HO157.out) (Kd.R_base ho0) hb); have n6_ := Aside0.mk (Kd.R_elder' (by (with_reducible repeat (first | apply Kd.R_alloc | apply Kd.R_drewN | apply Kd.R_drew)); exact HO162.out) (Kd.R_base ho0) hb); have n7_ := Aside0.mk (Kd.R_lower (Kd.R_new' (Kd.R_new' (Kd.R_new' (Kd.R_new' (Kd.R_new' (Kd.R_new' (Kd.R_new' ho0 (Kd.R_lt (by (with_reducible repeat (first | apply Kd.R_alloc | apply Kd.R_drewN | apply Kd.R_drew)); exact HO134.out))) (Kd.R_lt (by (with_reducible repeat (first | apply Kd.R_alloc | apply Kd.R_drewN | apply Kd.R_drew)); exact HO137.out))) (Kd.R_lt (by (with_reducible repeat (first | apply Kd.R_alloc | apply Kd.R_drewN | apply Kd.R_drew)); exact HO142.out))) (Kd.R_lt (by (with_reducible repeat (first | apply Kd.R_alloc | apply Kd.R_drewN | apply Kd.R_drew)); exact HO147.out))) (Kd.R_lt (by (with_reducible repeat (first | apply Kd.R_alloc | apply Kd.R_drewN | apply Kd.R_drew)); exact HO152.out))) (Kd.R_lt (by (with_reducible repeat (first | apply Kd.R_alloc | apply Kd.R_drewN | apply Kd.R_drew)); exact HO157.out))) (Kd.R_lt (by (with_reducible repeat (first | apply Kd.R_alloc | apply Kd.R_drewN | apply Kd.R_drew)); exact HO162.out))) (below_size (by repeat (first | (with_reducible first | exact HB.out | apply below_alloc | apply pw_below_drewN | apply below_drew1) | exact HB.out)))); have n8_ := Aside0.mk (below_step (by repeat (first | (with_reducible first | exact HB.out | apply below_alloc | apply pw_below_drewN | apply below_drew1) | exact HB.out)) hb); clear HO134; clear HO137; clear HO142; clear HO147; clear HO152; clear HO157; clear HO162; clear HB; have HO134 := n0_; have HO137 := n1_; have HO142 := n2_; have HO147 := n3_; have HO152 := n4_; have HO157 := n5_; have HO162 := n6_; have HO169 := n7_; have HB := n8_; clear n0_ n1_ n2_ n3_ n4_ n5_ n6_ n7_ n8_; (try clear hb); (try clear hb2); (try clear hk); (try clear hi); (try clear ho0)) | ((with_reducible refine gate_dst (N := 73) rfl ?_); (try (refine gate_guard (by rfl) ?_; dsimp only)); refine Kd.R_lit k35 _ 35 ?hg (N := 73) ?hd (xs := ([(⟨0, (⟨#[]⟩ : ByteArray), 0, 0⟩ : S35)] : List (S35))) (inner := [.int .i64 0, .string (⟨#[]⟩ : ByteArray), .int .i64 0, .int .i64 0]) (ok := fun _ => True) (okp := fun _ => True) ?hr ?hp (fun _ hk => hk) trivial (Below.refl _ _) (Nat.le_refl _) (by simp) ?_; (case hd => rfl); (case hg => rfl); (case hr => first | (go_simp; done) | (go_simp; rfl)); (case hp => exact (Reps.c4 (show Kd.M k35 _ _ _ (⟨0, (⟨#[]⟩ : ByteArray), 0, 0⟩ : S35) [.int .i64 0, .string (⟨#[]⟩ : ByteArray), .int .i64 0, .int .i64 0] from (k35_mkM _ _ _ (⟨0, (⟨#[]⟩ : ByteArray), 0, 0⟩ : S35) )) (Reps.none _ _))); intro v171 w22 ho23 hb hg_ hnew_; clear hg_ hnew_; (first | rw [← Ny170.out] at ho23 | (simp only [Int.reduceToNat] at ho23; rw [← Ny170.out] at ho23)); have n0_ := Aside0.mk (Kd.R_elder' (by (with_reducible repeat (first | apply Kd.R_alloc | apply Kd.R_drewN | apply Kd.R_drew)); exact HO134.out) (Kd.R_base ho23) hb); have n1_ := Aside0.mk (Kd.R_elder' (by (with_reducible repeat (first | apply Kd.R_alloc | apply Kd.R_drewN | apply Kd.R_drew)); exact HO137.out) (Kd.R_base ho23) hb); have n2_ := Aside0.mk (Kd.R_elder' (by (with_reducible repeat (first | apply Kd.R_alloc | apply Kd.R_drewN | apply Kd.R_drew)); exact HO142.out) (Kd.R_base ho23) hb); have n3_ := Aside0.mk (Kd.R_elder' (by (with_reducible repeat (first | apply Kd.R_alloc | apply Kd.R_drewN | apply Kd.R_drew)); exact HO147.out) (Kd.R_base ho23) hb); have n4_ := Aside0.mk (Kd.R_elder' (by (with_reducible repeat (first | apply Kd.R_alloc | apply Kd.R_drewN | apply Kd.R_drew)); exact HO152.out) (Kd.R_base ho23) hb); have n5_ := Aside0.mk (Kd.R_elder' (by (with_reducible repeat (first | apply Kd.R_alloc | apply Kd.R_drewN | apply Kd.R_drew)); exact HO157.out) (Kd.R_base ho23) hb); have n6_ := Aside0.mk (Kd.R_elder' (by (with_reducible repeat (first | apply Kd.R_alloc | apply Kd.R_drewN | apply Kd.R_drew)); exact HO162.out) (Kd.R_base ho23) hb); have n7_ := Aside0.mk (Kd.R_elder' (by (with_reducible repeat (first | apply Kd.R_alloc | apply Kd.R_drewN | apply Kd.R_drew)); exact HO169.out) (Kd.R_base ho23) hb); have n8_ := Aside0.mk (Kd.R_lower (Kd.R_new' (Kd.R_new' (Kd.R_new' (Kd.R_new' (Kd.R_new' (Kd.R_new' (Kd.R_new' (Kd.R_new' ho23 (Kd.R_lt (by (with_reducible repeat (first | apply Kd.R_alloc | apply Kd.R_drewN | apply Kd.R_drew)); exact HO134.out))) (Kd.R_lt (by (with_reducible repeat (first | apply Kd.R_alloc | apply Kd.R_drewN | apply Kd.R_drew)); exact HO137.out))) (Kd.R_lt (by (with_reducible repeat (first | apply Kd.R_alloc | apply Kd.R_drewN | apply Kd.R_drew)); exact HO142.out))) (Kd.R_lt (by (with_reducible repeat (first | apply Kd.R_alloc | apply Kd.R_drewN | apply Kd.R_drew)); exact HO147.out))) (Kd.R_lt (by (with_reducible repeat (first | apply Kd.R_alloc | apply Kd.R_drewN | apply Kd.R_drew)); exact HO152.out))) (Kd.R_lt (by (with_reducible repeat (first | apply Kd.R_alloc | apply Kd.R_drewN | apply Kd.R_drew)); exact HO157.out))) (Kd.R_lt (by (with_reducible repeat (first | apply Kd.R_alloc | apply Kd.R_drewN | apply Kd.R_drew)); exact HO162.out))) (Kd.R_lt (by (with_reducible repeat (first | apply Kd.R_alloc | apply Kd.R_drewN | apply Kd.R_drew)); exact HO169.out))) (below_size (by repeat (first | (with_reducible first | exact HB.out | apply below_alloc | apply pw_below_drewN | apply below_drew1) | exact HB.out)))); have n9_ := Aside0.mk (below_step (by repeat (first | (with_reducible first | exact HB.out | apply below_alloc | apply pw_below_drewN | apply below_drew1) | exact HB.out)) hb); clear HO134; clear HO137; clear HO142; clear HO147; clear HO152; clear HO157; clear HO162; clear HO169; clear HB; have HO134 := n0_; have HO137 := n1_; have HO142 := n2_; have HO147 := n3_; have HO152 := n4_; have HO157 := n5_; have HO162 := n6_; have HO169 := n7_; have HO172 := n8_; have HB := n9_; clear n0_ n1_ n2_ n3_ n4_ n5_ n6_ n7_ n8_ n9_; clear hb ho23; obtain ⟨Ao24, co24, eo24⟩ := Kd.R_slice HO172.out; subst eo24) | ((with_reducible refine gate_callee (f := 16) rfl ?_); refine goesL_ (some 74) rfl rfl Tryd.func16 (by kernel_rfl) rfl #[.slice Ao24 y170.length co24] rfl (by (try simp only [List.map_toArray, List.map_cons, List.map_nil]); first | done | rfl | (simp only [List.length_drop, List.length_take]; rfl)) ?_; (with_reducible refine (lex_Text.calls k _ _ y170 t173 t174 _ ?side3 ?side1 ?side2 A9.out).mono ?_); (case side1 => repeat (first | exact (Kd.R_reads' HO172.out).2.2 | (with_reducible refine Kd.C_alloc ?_ _) | (with_reducible refine Kd.C_drewN ?_ _) | (with_reducible refine Kd.C_drew ?_))); (case side2 => exact (Kd.R_reads' HO172.out).2.1); (case side3 => exact Laid.below HLAID.out (by repeat (first | (with_reducible first | exact HB.out | apply below_alloc | apply pw_below_drewN | apply below_drew1) | exact HB.out))); rintro e w25 ⟨rfl, hb⟩; refine ⟨_, rfl, ?_⟩; have n0_ := Aside0.mk (Kd.R_below (by (with_reducible repeat (first | apply Kd.R_alloc | apply Kd.R_drewN | apply Kd.R_drew)); exact HO134.out) hb); have n1_ := Aside0.mk (Kd.R_below (by (with_reducible repeat (first | apply Kd.R_alloc | apply Kd.R_drewN | apply Kd.R_drew)); exact HO137.out) hb); have n2_ := Aside0.mk (Kd.R_below (by (with_reducible repeat (first | apply Kd.R_alloc | apply Kd.R_drewN | apply Kd.R_drew)); exact HO142.out) hb); have n3_ := Aside0.mk (Kd.R_below (by (with_reducible repeat (first | apply Kd.R_alloc | apply Kd.R_drewN | apply Kd.R_drew)); exact HO147.out) hb); have n4_ := Aside0.mk (Kd.R_below (by (with_reducible repeat (first | apply Kd.R_alloc | apply Kd.R_drewN | apply Kd.R_drew)); exact HO152.out) hb); have n5_ := Aside0.mk (Kd.R_below (by (with_reducible repeat (first | apply Kd.R_alloc | apply Kd.R_drewN | apply Kd.R_drew)); exact HO157.out) hb); have n6_ := Aside0.mk (Kd.R_below (by (with_reducible repeat (first | apply Kd.R_alloc | apply Kd.R_drewN | apply Kd.R_drew)); exact HO162.out) hb); have n7_ := Aside0.mk (Kd.R_below (by (with_reducible repeat (first | apply Kd.R_alloc | apply Kd.R_drewN | apply Kd.R_drew)); exact HO169.out) hb); have n8_ := Aside0.mk (Kd.R_below (by (with_reducible repeat (first | apply Kd.R_alloc | apply Kd.R_drewN | apply Kd.R_drew)); exact HO172.out) hb); have n9_ := Aside0.mk (below_step (by repeat (first | (with_reducible first | exact HB.out | apply below_alloc | apply pw_below_drewN | apply below_drew1) | exact HB.out)) hb); clear HO134; clear HO137; clear HO142; clear HO147; clear HO152; clear HO157; clear HO162; clear HO169; clear HO172; clear HB; have HO134 := n0_; have HO137 := n1_; have HO142 := n2_; have HO147 := n3_; have HO152 := n4_; have HO157 := n5_; have HO162 := n6_; have HO169 := n7_; have HO172 := n8_; have HB := n9_; clear n0_ n1_ n2_ n3_ n4_ n5_ n6_ n7_ n8_ n9_; (try clear hb); (try clear hb2); (try clear hk); (try clear hi)))
  (try simp only [Act.put, List.setIfInBounds_toArray, List.set_cons_zero, List.set_cons_succ])
  go_cut [127] (fun v127 wc => ∃ (kq : Nat) (x127_9 : Bool), v127 = .bool x127_9 ∧ Aside0 (testamurlaw09_sane.j0 kq t130 y135 t143 t148 t158 t163 x127_9 = some r) ∧ Aside0 (kq ≤ k) ∧ Aside0 (Kd.R k35 35 wc w.heap.size (fun k_ => some k_ ≠ (v136 : Value).ownBlock ∧ some k_ ≠ (v146 : Value).ownBlock ∧ some k_ ≠ (v151 : Value).ownBlock ∧ some k_ ≠ ((.slice Ao19 t158.length co19) : Value).ownBlock) v133 t130) ∧ Aside0 (Kd.R k35 35 wc w.heap.size (fun k_ => some k_ ≠ (v133 : Value).ownBlock ∧ some k_ ≠ (v146 : Value).ownBlock ∧ some k_ ≠ (v151 : Value).ownBlock ∧ some k_ ≠ ((.slice Ao19 t158.length co19) : Value).ownBlock) v136 y135) ∧ Aside0 (Kd.R k35 35 wc w.heap.size (fun k_ => some k_ ≠ (v133 : Value).ownBlock ∧ some k_ ≠ (v136 : Value).ownBlock ∧ some k_ ≠ (v151 : Value).ownBlock ∧ some k_ ≠ ((.slice Ao19 t158.length co19) : Value).ownBlock) v146 t143) ∧ Aside0 (Kd.R k35 35 wc w.heap.size (fun k_ => some k_ ≠ (v133 : Value).ownBlock ∧ some k_ ≠ (v136 : Value).ownBlock ∧ some k_ ≠ (v146 : Value).ownBlock ∧ some k_ ≠ ((.slice Ao19 t158.length co19) : Value).ownBlock) v151 t148) ∧ Aside0 (Kd.R k35 35 wc w.heap.size (fun k_ => some k_ ≠ (v133 : Value).ownBlock ∧ some k_ ≠ (v136 : Value).ownBlock ∧ some k_ ≠ (v146 : Value).ownBlock ∧ some k_ ≠ (v151 : Value).ownBlock) (.slice Ao19 t158.length co19) t158) ∧ Aside0 (Below w.heap.size w wc))
  case first =>
    have H := HC10.out
    clear HC10
    by_cases c26 : t131 = 0
    · rw [if_pos c26] at H
      have c26b0 : (t131 == 0) = true := beq_iff_eq.mpr c26
      have c26b1 : (t131 != 0) = false := bne_eq_false_iff_eq.mpr c26
      clear c26
      (first | rw [c26b0] | (simp only [i64_w, i32_w]; rw [c26b0]) | skip)
      by_cases c27 : t132 = 0
      · rw [if_pos c27] at H
        have c27b0 : (t132 == 0) = true := beq_iff_eq.mpr c27
        have c27b1 : (t132 != 0) = false := bne_eq_false_iff_eq.mpr c27
        clear c27
        by_cases c28 : t140 = 90
        · rw [if_pos c28] at H
          have c28b0 : (t140 == 90) = true := beq_iff_eq.mpr c28
          have c28b1 : (t140 != 90) = false := bne_eq_false_iff_eq.mpr c28
          clear c28
          by_cases c29 : t139 = 0
          · rw [if_pos c29] at H
            have c29b0 : (t139 == 0) = true := beq_iff_eq.mpr c29
            have c29b1 : (t139 != 0) = false := bne_eq_false_iff_eq.mpr c29
            clear c29
            by_cases c30 : t145 = 0
            · rw [if_pos c30] at H
              have c30b0 : (t145 == 0) = true := beq_iff_eq.mpr c30
              have c30b1 : (t145 != 0) = false := bne_eq_false_iff_eq.mpr c30
              clear c30
              by_cases c31 : t150 = 0
              · rw [if_pos c31] at H
                have c31b0 : (t150 == 0) = true := beq_iff_eq.mpr c31
                have c31b1 : (t150 != 0) = false := bne_eq_false_iff_eq.mpr c31
                clear c31
                by_cases c32 : t155 = 90
                · rw [if_pos c32] at H
                  have c32b0 : (t155 == 90) = true := beq_iff_eq.mpr c32
                  have c32b1 : (t155 != 90) = false := bne_eq_false_iff_eq.mpr c32
                  clear c32
                  by_cases c33 : t154 = 2
                  · rw [if_pos c33] at H
                    have c33b0 : (t154 == 2) = true := beq_iff_eq.mpr c33
                    have c33b1 : (t154 != 2) = false := bne_eq_false_iff_eq.mpr c33
                    clear c33
                    by_cases c34 : t160 = 0
                    · rw [if_pos c34] at H
                      have c34b0 : (t160 == 0) = true := beq_iff_eq.mpr c34
                      have c34b1 : (t160 != 0) = false := bne_eq_false_iff_eq.mpr c34
                      clear c34
                      by_cases c35 : t164 = 0
                      · rw [if_pos c35] at H
                        have c35b0 : (t164 == 0) = true := beq_iff_eq.mpr c35
                        have c35b1 : (t164 != 0) = false := bne_eq_false_iff_eq.mpr c35
                        clear c35
                        by_cases c36 : t167 = 0
                        · rw [if_pos c36] at H
                          have c36b0 : (t167 == 0) = true := beq_iff_eq.mpr c36
                          have c36b1 : (t167 != 0) = false := bne_eq_false_iff_eq.mpr c36
                          clear c36
                          by_cases c37 : t174 = 90
                          · rw [if_pos c37] at H
                            have c37b0 : (t174 == 90) = true := beq_iff_eq.mpr c37
                            have c37b1 : (t174 != 90) = false := bne_eq_false_iff_eq.mpr c37
                            clear c37
                            have H' := Aside0.mk H
                            clear H
                            obtain ⟨Ao38, co38, eo38⟩ := Kd.R_slice HO169.out
                            subst eo38
                            go_wp2
                            go_meet
                            case rel => exact ⟨_, (((t165.length : Int) != 0)), (by first | rfl | (simp; done) | (simp [*]; done)), H', ⟨by first | omega | exact Nat.le_refl _⟩, ⟨by (with_reducible repeat (first | apply Kd.R_alloc | apply Kd.R_drewN | apply Kd.R_drew)); exact Kd.R_mono HO134.out (fun _ hk => ⟨hk.1.1.1.1.1.1.1.2, ⟨hk.1.1.1.1.1.2, ⟨hk.1.1.1.1.2, hk.1.1.2⟩⟩⟩)⟩, ⟨by (with_reducible repeat (first | apply Kd.R_alloc | apply Kd.R_drewN | apply Kd.R_drew)); exact Kd.R_mono HO137.out (fun _ hk => ⟨hk.1.1.1.1.1.1.1.2, ⟨hk.1.1.1.1.1.2, ⟨hk.1.1.1.1.2, hk.1.1.2⟩⟩⟩)⟩, ⟨by (with_reducible repeat (first | apply Kd.R_alloc | apply Kd.R_drewN | apply Kd.R_drew)); exact Kd.R_mono HO147.out (fun _ hk => ⟨hk.1.1.1.1.1.1.1.2, ⟨hk.1.1.1.1.1.1.2, ⟨hk.1.1.1.1.2, hk.1.1.2⟩⟩⟩)⟩, ⟨by (with_reducible repeat (first | apply Kd.R_alloc | apply Kd.R_drewN | apply Kd.R_drew)); exact Kd.R_mono HO152.out (fun _ hk => ⟨hk.1.1.1.1.1.1.1.2, ⟨hk.1.1.1.1.1.1.2, ⟨hk.1.1.1.1.2, hk.1.1.2⟩⟩⟩)⟩, ⟨by (with_reducible repeat (first | apply Kd.R_alloc | apply Kd.R_drewN | apply Kd.R_drew)); exact Kd.R_mono HO162.out (fun _ hk => ⟨hk.1.1.1.1.1.1.1.2, ⟨hk.1.1.1.1.1.1.2, ⟨hk.1.1.1.1.2, hk.1.1.1.2⟩⟩⟩)⟩, ⟨by repeat (first | (with_reducible first | exact HB.out | apply below_alloc | apply pw_below_drewN | apply below_drew1) | exact HB.out)⟩⟩
                          · rw [if_neg c37] at H
                            have c37b0 : (t174 == 90) = false := beq_eq_false_iff_ne.mpr c37
                            have c37b1 : (t174 != 90) = true := bne_iff_ne.mpr c37
                            have H' := Aside0.mk H
                            clear H
                            go_wp2
                            go_meet
                            case rel => exact ⟨_, (true), (by first | rfl | (simp; done) | (simp [*]; done)), H', ⟨by first | omega | exact Nat.le_refl _⟩, ⟨by (with_reducible repeat (first | apply Kd.R_alloc | apply Kd.R_drewN | apply Kd.R_drew)); exact Kd.R_mono HO134.out (fun _ hk => ⟨hk.1.1.1.1.1.1.1.2, ⟨hk.1.1.1.1.1.2, ⟨hk.1.1.1.1.2, hk.1.1.2⟩⟩⟩)⟩, ⟨by (with_reducible repeat (first | apply Kd.R_alloc | apply Kd.R_drewN | apply Kd.R_drew)); exact Kd.R_mono HO137.out (fun _ hk => ⟨hk.1.1.1.1.1.1.1.2, ⟨hk.1.1.1.1.1.2, ⟨hk.1.1.1.1.2, hk.1.1.2⟩⟩⟩)⟩, ⟨by (with_reducible repeat (first | apply Kd.R_alloc | apply Kd.R_drewN | apply Kd.R_drew)); exact Kd.R_mono HO147.out (fun _ hk => ⟨hk.1.1.1.1.1.1.1.2, ⟨hk.1.1.1.1.1.1.2, ⟨hk.1.1.1.1.2, hk.1.1.2⟩⟩⟩)⟩, ⟨by (with_reducible repeat (first | apply Kd.R_alloc | apply Kd.R_drewN | apply Kd.R_drew)); exact Kd.R_mono HO152.out (fun _ hk => ⟨hk.1.1.1.1.1.1.1.2, ⟨hk.1.1.1.1.1.1.2, ⟨hk.1.1.1.1.2, hk.1.1.2⟩⟩⟩)⟩, ⟨by (with_reducible repeat (first | apply Kd.R_alloc | apply Kd.R_drewN | apply Kd.R_drew)); exact Kd.R_mono HO162.out (fun _ hk => ⟨hk.1.1.1.1.1.1.1.2, ⟨hk.1.1.1.1.1.1.2, ⟨hk.1.1.1.1.2, hk.1.1.1.2⟩⟩⟩)⟩, ⟨by repeat (first | (with_reducible first | exact HB.out | apply below_alloc | apply pw_below_drewN | apply below_drew1) | exact HB.out)⟩⟩
                        · rw [if_neg c36] at H
                          have c36b0 : (t167 == 0) = false := beq_eq_false_iff_ne.mpr c36
                          have c36b1 : (t167 != 0) = true := bne_iff_ne.mpr c36
                          have H' := Aside0.mk H
                          clear H
                          go_wp2
                          go_meet
                          case rel => exact ⟨_, (true), (by first | rfl | (simp; done) | (simp [*]; done)), H', ⟨by first | omega | exact Nat.le_refl _⟩, ⟨by (with_reducible repeat (first | apply Kd.R_alloc | apply Kd.R_drewN | apply Kd.R_drew)); exact Kd.R_mono HO134.out (fun _ hk => ⟨hk.1.1.1.1.1.1.1.2, ⟨hk.1.1.1.1.1.2, ⟨hk.1.1.1.1.2, hk.1.1.2⟩⟩⟩)⟩, ⟨by (with_reducible repeat (first | apply Kd.R_alloc | apply Kd.R_drewN | apply Kd.R_drew)); exact Kd.R_mono HO137.out (fun _ hk => ⟨hk.1.1.1.1.1.1.1.2, ⟨hk.1.1.1.1.1.2, ⟨hk.1.1.1.1.2, hk.1.1.2⟩⟩⟩)⟩, ⟨by (with_reducible repeat (first | apply Kd.R_alloc | apply Kd.R_drewN | apply Kd.R_drew)); exact Kd.R_mono HO147.out (fun _ hk => ⟨hk.1.1.1.1.1.1.1.2, ⟨hk.1.1.1.1.1.1.2, ⟨hk.1.1.1.1.2, hk.1.1.2⟩⟩⟩)⟩, ⟨by (with_reducible repeat (first | apply Kd.R_alloc | apply Kd.R_drewN | apply Kd.R_drew)); exact Kd.R_mono HO152.out (fun _ hk => ⟨hk.1.1.1.1.1.1.1.2, ⟨hk.1.1.1.1.1.1.2, ⟨hk.1.1.1.1.2, hk.1.1.2⟩⟩⟩)⟩, ⟨by (with_reducible repeat (first | apply Kd.R_alloc | apply Kd.R_drewN | apply Kd.R_drew)); exact Kd.R_mono HO162.out (fun _ hk => ⟨hk.1.1.1.1.1.1.1.2, ⟨hk.1.1.1.1.1.1.2, ⟨hk.1.1.1.1.2, hk.1.1.1.2⟩⟩⟩)⟩, ⟨by repeat (first | (with_reducible first | exact HB.out | apply below_alloc | apply pw_below_drewN | apply below_drew1) | exact HB.out)⟩⟩
                      · rw [if_neg c35] at H
                        have c35b0 : (t164 == 0) = false := beq_eq_false_iff_ne.mpr c35
                        have c35b1 : (t164 != 0) = true := bne_iff_ne.mpr c35
                        have H' := Aside0.mk H
                        clear H
                        go_wp2
                        go_meet
                        case rel => exact ⟨_, (true), (by first | rfl | (simp; done) | (simp [*]; done)), H', ⟨by first | omega | exact Nat.le_refl _⟩, ⟨by (with_reducible repeat (first | apply Kd.R_alloc | apply Kd.R_drewN | apply Kd.R_drew)); exact Kd.R_mono HO134.out (fun _ hk => ⟨hk.1.1.1.1.1.1.1.2, ⟨hk.1.1.1.1.1.2, ⟨hk.1.1.1.1.2, hk.1.1.2⟩⟩⟩)⟩, ⟨by (with_reducible repeat (first | apply Kd.R_alloc | apply Kd.R_drewN | apply Kd.R_drew)); exact Kd.R_mono HO137.out (fun _ hk => ⟨hk.1.1.1.1.1.1.1.2, ⟨hk.1.1.1.1.1.2, ⟨hk.1.1.1.1.2, hk.1.1.2⟩⟩⟩)⟩, ⟨by (with_reducible repeat (first | apply Kd.R_alloc | apply Kd.R_drewN | apply Kd.R_drew)); exact Kd.R_mono HO147.out (fun _ hk => ⟨hk.1.1.1.1.1.1.1.2, ⟨hk.1.1.1.1.1.1.2, ⟨hk.1.1.1.1.2, hk.1.1.2⟩⟩⟩)⟩, ⟨by (with_reducible repeat (first | apply Kd.R_alloc | apply Kd.R_drewN | apply Kd.R_drew)); exact Kd.R_mono HO152.out (fun _ hk => ⟨hk.1.1.1.1.1.1.1.2, ⟨hk.1.1.1.1.1.1.2, ⟨hk.1.1.1.1.2, hk.1.1.2⟩⟩⟩)⟩, ⟨by (with_reducible repeat (first | apply Kd.R_alloc | apply Kd.R_drewN | apply Kd.R_drew)); exact Kd.R_mono HO162.out (fun _ hk => ⟨hk.1.1.1.1.1.1.1.2, ⟨hk.1.1.1.1.1.1.2, ⟨hk.1.1.1.1.2, hk.1.1.1.2⟩⟩⟩)⟩, ⟨by repeat (first | (with_reducible first | exact HB.out | apply below_alloc | apply pw_below_drewN | apply below_drew1) | exact HB.out)⟩⟩
                    · rw [if_neg c34] at H
                      have c34b0 : (t160 == 0) = false := beq_eq_false_iff_ne.mpr c34
                      have c34b1 : (t160 != 0) = true := bne_iff_ne.mpr c34
                      have H' := Aside0.mk H
                      clear H
                      go_wp2
                      go_meet
                      case rel => exact ⟨_, (true), (by first | rfl | (simp; done) | (simp [*]; done)), H', ⟨by first | omega | exact Nat.le_refl _⟩, ⟨by (with_reducible repeat (first | apply Kd.R_alloc | apply Kd.R_drewN | apply Kd.R_drew)); exact Kd.R_mono HO134.out (fun _ hk => ⟨hk.1.1.1.1.1.1.1.2, ⟨hk.1.1.1.1.1.2, ⟨hk.1.1.1.1.2, hk.1.1.2⟩⟩⟩)⟩, ⟨by (with_reducible repeat (first | apply Kd.R_alloc | apply Kd.R_drewN | apply Kd.R_drew)); exact Kd.R_mono HO137.out (fun _ hk => ⟨hk.1.1.1.1.1.1.1.2, ⟨hk.1.1.1.1.1.2, ⟨hk.1.1.1.1.2, hk.1.1.2⟩⟩⟩)⟩, ⟨by (with_reducible repeat (first | apply Kd.R_alloc | apply Kd.R_drewN | apply Kd.R_drew)); exact Kd.R_mono HO147.out (fun _ hk => ⟨hk.1.1.1.1.1.1.1.2, ⟨hk.1.1.1.1.1.1.2, ⟨hk.1.1.1.1.2, hk.1.1.2⟩⟩⟩)⟩, ⟨by (with_reducible repeat (first | apply Kd.R_alloc | apply Kd.R_drewN | apply Kd.R_drew)); exact Kd.R_mono HO152.out (fun _ hk => ⟨hk.1.1.1.1.1.1.1.2, ⟨hk.1.1.1.1.1.1.2, ⟨hk.1.1.1.1.2, hk.1.1.2⟩⟩⟩)⟩, ⟨by (with_reducible repeat (first | apply Kd.R_alloc | apply Kd.R_drewN | apply Kd.R_drew)); exact Kd.R_mono HO162.out (fun _ hk => ⟨hk.1.1.1.1.1.1.1.2, ⟨hk.1.1.1.1.1.1.2, ⟨hk.1.1.1.1.2, hk.1.1.1.2⟩⟩⟩)⟩, ⟨by repeat (first | (with_reducible first | exact HB.out | apply below_alloc | apply pw_below_drewN | apply below_drew1) | exact HB.out)⟩⟩
                  · rw [if_neg c33] at H
                    have c33b0 : (t154 == 2) = false := beq_eq_false_iff_ne.mpr c33
                    have c33b1 : (t154 != 2) = true := bne_iff_ne.mpr c33
                    have H' := Aside0.mk H
                    clear H
                    go_wp2
                    go_meet
                    case rel => exact ⟨_, (true), (by first | rfl | (simp; done) | (simp [*]; done)), H', ⟨by first | omega | exact Nat.le_refl _⟩, ⟨by (with_reducible repeat (first | apply Kd.R_alloc | apply Kd.R_drewN | apply Kd.R_drew)); exact Kd.R_mono HO134.out (fun _ hk => ⟨hk.1.1.1.1.1.1.1.2, ⟨hk.1.1.1.1.1.2, ⟨hk.1.1.1.1.2, hk.1.1.2⟩⟩⟩)⟩, ⟨by (with_reducible repeat (first | apply Kd.R_alloc | apply Kd.R_drewN | apply Kd.R_drew)); exact Kd.R_mono HO137.out (fun _ hk => ⟨hk.1.1.1.1.1.1.1.2, ⟨hk.1.1.1.1.1.2, ⟨hk.1.1.1.1.2, hk.1.1.2⟩⟩⟩)⟩, ⟨by (with_reducible repeat (first | apply Kd.R_alloc | apply Kd.R_drewN | apply Kd.R_drew)); exact Kd.R_mono HO147.out (fun _ hk => ⟨hk.1.1.1.1.1.1.1.2, ⟨hk.1.1.1.1.1.1.2, ⟨hk.1.1.1.1.2, hk.1.1.2⟩⟩⟩)⟩, ⟨by (with_reducible repeat (first | apply Kd.R_alloc | apply Kd.R_drewN | apply Kd.R_drew)); exact Kd.R_mono HO152.out (fun _ hk => ⟨hk.1.1.1.1.1.1.1.2, ⟨hk.1.1.1.1.1.1.2, ⟨hk.1.1.1.1.2, hk.1.1.2⟩⟩⟩)⟩, ⟨by (with_reducible repeat (first | apply Kd.R_alloc | apply Kd.R_drewN | apply Kd.R_drew)); exact Kd.R_mono HO162.out (fun _ hk => ⟨hk.1.1.1.1.1.1.1.2, ⟨hk.1.1.1.1.1.1.2, ⟨hk.1.1.1.1.2, hk.1.1.1.2⟩⟩⟩)⟩, ⟨by repeat (first | (with_reducible first | exact HB.out | apply below_alloc | apply pw_below_drewN | apply below_drew1) | exact HB.out)⟩⟩
                · rw [if_neg c32] at H
                  have c32b0 : (t155 == 90) = false := beq_eq_false_iff_ne.mpr c32
                  have c32b1 : (t155 != 90) = true := bne_iff_ne.mpr c32
                  have H' := Aside0.mk H
                  clear H
                  go_wp2
                  go_meet
                  case rel => exact ⟨_, (true), (by first | rfl | (simp; done) | (simp [*]; done)), H', ⟨by first | omega | exact Nat.le_refl _⟩, ⟨by (with_reducible repeat (first | apply Kd.R_alloc | apply Kd.R_drewN | apply Kd.R_drew)); exact Kd.R_mono HO134.out (fun _ hk => ⟨hk.1.1.1.1.1.1.1.2, ⟨hk.1.1.1.1.1.2, ⟨hk.1.1.1.1.2, hk.1.1.2⟩⟩⟩)⟩, ⟨by (with_reducible repeat (first | apply Kd.R_alloc | apply Kd.R_drewN | apply Kd.R_drew)); exact Kd.R_mono HO137.out (fun _ hk => ⟨hk.1.1.1.1.1.1.1.2, ⟨hk.1.1.1.1.1.2, ⟨hk.1.1.1.1.2, hk.1.1.2⟩⟩⟩)⟩, ⟨by (with_reducible repeat (first | apply Kd.R_alloc | apply Kd.R_drewN | apply Kd.R_drew)); exact Kd.R_mono HO147.out (fun _ hk => ⟨hk.1.1.1.1.1.1.1.2, ⟨hk.1.1.1.1.1.1.2, ⟨hk.1.1.1.1.2, hk.1.1.2⟩⟩⟩)⟩, ⟨by (with_reducible repeat (first | apply Kd.R_alloc | apply Kd.R_drewN | apply Kd.R_drew)); exact Kd.R_mono HO152.out (fun _ hk => ⟨hk.1.1.1.1.1.1.1.2, ⟨hk.1.1.1.1.1.1.2, ⟨hk.1.1.1.1.2, hk.1.1.2⟩⟩⟩)⟩, ⟨by (with_reducible repeat (first | apply Kd.R_alloc | apply Kd.R_drewN | apply Kd.R_drew)); exact Kd.R_mono HO162.out (fun _ hk => ⟨hk.1.1.1.1.1.1.1.2, ⟨hk.1.1.1.1.1.1.2, ⟨hk.1.1.1.1.2, hk.1.1.1.2⟩⟩⟩)⟩, ⟨by repeat (first | (with_reducible first | exact HB.out | apply below_alloc | apply pw_below_drewN | apply below_drew1) | exact HB.out)⟩⟩
              · rw [if_neg c31] at H
                have c31b0 : (t150 == 0) = false := beq_eq_false_iff_ne.mpr c31
                have c31b1 : (t150 != 0) = true := bne_iff_ne.mpr c31
                have H' := Aside0.mk H
                clear H
                go_wp2
                go_meet
                case rel => exact ⟨_, (true), (by first | rfl | (simp; done) | (simp [*]; done)), H', ⟨by first | omega | exact Nat.le_refl _⟩, ⟨by (with_reducible repeat (first | apply Kd.R_alloc | apply Kd.R_drewN | apply Kd.R_drew)); exact Kd.R_mono HO134.out (fun _ hk => ⟨hk.1.1.1.1.1.1.1.2, ⟨hk.1.1.1.1.1.2, ⟨hk.1.1.1.1.2, hk.1.1.2⟩⟩⟩)⟩, ⟨by (with_reducible repeat (first | apply Kd.R_alloc | apply Kd.R_drewN | apply Kd.R_drew)); exact Kd.R_mono HO137.out (fun _ hk => ⟨hk.1.1.1.1.1.1.1.2, ⟨hk.1.1.1.1.1.2, ⟨hk.1.1.1.1.2, hk.1.1.2⟩⟩⟩)⟩, ⟨by (with_reducible repeat (first | apply Kd.R_alloc | apply Kd.R_drewN | apply Kd.R_drew)); exact Kd.R_mono HO147.out (fun _ hk => ⟨hk.1.1.1.1.1.1.1.2, ⟨hk.1.1.1.1.1.1.2, ⟨hk.1.1.1.1.2, hk.1.1.2⟩⟩⟩)⟩, ⟨by (with_reducible repeat (first | apply Kd.R_alloc | apply Kd.R_drewN | apply Kd.R_drew)); exact Kd.R_mono HO152.out (fun _ hk => ⟨hk.1.1.1.1.1.1.1.2, ⟨hk.1.1.1.1.1.1.2, ⟨hk.1.1.1.1.2, hk.1.1.2⟩⟩⟩)⟩, ⟨by (with_reducible repeat (first | apply Kd.R_alloc | apply Kd.R_drewN | apply Kd.R_drew)); exact Kd.R_mono HO162.out (fun _ hk => ⟨hk.1.1.1.1.1.1.1.2, ⟨hk.1.1.1.1.1.1.2, ⟨hk.1.1.1.1.2, hk.1.1.1.2⟩⟩⟩)⟩, ⟨by repeat (first | (with_reducible first | exact HB.out | apply below_alloc | apply pw_below_drewN | apply below_drew1) | exact HB.out)⟩⟩
            · rw [if_neg c30] at H
              have c30b0 : (t145 == 0) = false := beq_eq_false_iff_ne.mpr c30
              have c30b1 : (t145 != 0) = true := bne_iff_ne.mpr c30
              have H' := Aside0.mk H
              clear H
              go_wp2
              go_meet
              case rel => exact ⟨_, (true), (by first | rfl | (simp; done) | (simp [*]; done)), H', ⟨by first | omega | exact Nat.le_refl _⟩, ⟨by (with_reducible repeat (first | apply Kd.R_alloc | apply Kd.R_drewN | apply Kd.R_drew)); exact Kd.R_mono HO134.out (fun _ hk => ⟨hk.1.1.1.1.1.1.1.2, ⟨hk.1.1.1.1.1.2, ⟨hk.1.1.1.1.2, hk.1.1.2⟩⟩⟩)⟩, ⟨by (with_reducible repeat (first | apply Kd.R_alloc | apply Kd.R_drewN | apply Kd.R_drew)); exact Kd.R_mono HO137.out (fun _ hk => ⟨hk.1.1.1.1.1.1.1.2, ⟨hk.1.1.1.1.1.2, ⟨hk.1.1.1.1.2, hk.1.1.2⟩⟩⟩)⟩, ⟨by (with_reducible repeat (first | apply Kd.R_alloc | apply Kd.R_drewN | apply Kd.R_drew)); exact Kd.R_mono HO147.out (fun _ hk => ⟨hk.1.1.1.1.1.1.1.2, ⟨hk.1.1.1.1.1.1.2, ⟨hk.1.1.1.1.2, hk.1.1.2⟩⟩⟩)⟩, ⟨by (with_reducible repeat (first | apply Kd.R_alloc | apply Kd.R_drewN | apply Kd.R_drew)); exact Kd.R_mono HO152.out (fun _ hk => ⟨hk.1.1.1.1.1.1.1.2, ⟨hk.1.1.1.1.1.1.2, ⟨hk.1.1.1.1.2, hk.1.1.2⟩⟩⟩)⟩, ⟨by (with_reducible repeat (first | apply Kd.R_alloc | apply Kd.R_drewN | apply Kd.R_drew)); exact Kd.R_mono HO162.out (fun _ hk => ⟨hk.1.1.1.1.1.1.1.2, ⟨hk.1.1.1.1.1.1.2, ⟨hk.1.1.1.1.2, hk.1.1.1.2⟩⟩⟩)⟩, ⟨by repeat (first | (with_reducible first | exact HB.out | apply below_alloc | apply pw_below_drewN | apply below_drew1) | exact HB.out)⟩⟩
          · rw [if_neg c29] at H
            have c29b0 : (t139 == 0) = false := beq_eq_false_iff_ne.mpr c29
            have c29b1 : (t139 != 0) = true := bne_iff_ne.mpr c29
            have H' := Aside0.mk H
            clear H
            go_wp2
            go_meet
            case rel => exact ⟨_, (true), (by first | rfl | (simp; done) | (simp [*]; done)), H', ⟨by first | omega | exact Nat.le_refl _⟩, ⟨by (with_reducible repeat (first | apply Kd.R_alloc | apply Kd.R_drewN | apply Kd.R_drew)); exact Kd.R_mono HO134.out (fun _ hk => ⟨hk.1.1.1.1.1.1.1.2, ⟨hk.1.1.1.1.1.2, ⟨hk.1.1.1.1.2, hk.1.1.2⟩⟩⟩)⟩, ⟨by (with_reducible repeat (first | apply Kd.R_alloc | apply Kd.R_drewN | apply Kd.R_drew)); exact Kd.R_mono HO137.out (fun _ hk => ⟨hk.1.1.1.1.1.1.1.2, ⟨hk.1.1.1.1.1.2, ⟨hk.1.1.1.1.2, hk.1.1.2⟩⟩⟩)⟩, ⟨by (with_reducible repeat (first | apply Kd.R_alloc | apply Kd.R_drewN | apply Kd.R_drew)); exact Kd.R_mono HO147.out (fun _ hk => ⟨hk.1.1.1.1.1.1.1.2, ⟨hk.1.1.1.1.1.1.2, ⟨hk.1.1.1.1.2, hk.1.1.2⟩⟩⟩)⟩, ⟨by (with_reducible repeat (first | apply Kd.R_alloc | apply Kd.R_drewN | apply Kd.R_drew)); exact Kd.R_mono HO152.out (fun _ hk => ⟨hk.1.1.1.1.1.1.1.2, ⟨hk.1.1.1.1.1.1.2, ⟨hk.1.1.1.1.2, hk.1.1.2⟩⟩⟩)⟩, ⟨by (with_reducible repeat (first | apply Kd.R_alloc | apply Kd.R_drewN | apply Kd.R_drew)); exact Kd.R_mono HO162.out (fun _ hk => ⟨hk.1.1.1.1.1.1.1.2, ⟨hk.1.1.1.1.1.1.2, ⟨hk.1.1.1.1.2, hk.1.1.1.2⟩⟩⟩)⟩, ⟨by repeat (first | (with_reducible first | exact HB.out | apply below_alloc | apply pw_below_drewN | apply below_drew1) | exact HB.out)⟩⟩
        · rw [if_neg c28] at H
          have c28b0 : (t140 == 90) = false := beq_eq_false_iff_ne.mpr c28
          have c28b1 : (t140 != 90) = true := bne_iff_ne.mpr c28
          have H' := Aside0.mk H
          clear H
          go_wp2
          go_meet
          case rel => exact ⟨_, (true), (by first | rfl | (simp; done) | (simp [*]; done)), H', ⟨by first | omega | exact Nat.le_refl _⟩, ⟨by (with_reducible repeat (first | apply Kd.R_alloc | apply Kd.R_drewN | apply Kd.R_drew)); exact Kd.R_mono HO134.out (fun _ hk => ⟨hk.1.1.1.1.1.1.1.2, ⟨hk.1.1.1.1.1.2, ⟨hk.1.1.1.1.2, hk.1.1.2⟩⟩⟩)⟩, ⟨by (with_reducible repeat (first | apply Kd.R_alloc | apply Kd.R_drewN | apply Kd.R_drew)); exact Kd.R_mono HO137.out (fun _ hk => ⟨hk.1.1.1.1.1.1.1.2, ⟨hk.1.1.1.1.1.2, ⟨hk.1.1.1.1.2, hk.1.1.2⟩⟩⟩)⟩, ⟨by (with_reducible repeat (first | apply Kd.R_alloc | apply Kd.R_drewN | apply Kd.R_drew)); exact Kd.R_mono HO147.out (fun _ hk => ⟨hk.1.1.1.1.1.1.1.2, ⟨hk.1.1.1.1.1.1.2, ⟨hk.1.1.1.1.2, hk.1.1.2⟩⟩⟩)⟩, ⟨by (with_reducible repeat (first | apply Kd.R_alloc | apply Kd.R_drewN | apply Kd.R_drew)); exact Kd.R_mono HO152.out (fun _ hk => ⟨hk.1.1.1.1.1.1.1.2, ⟨hk.1.1.1.1.1.1.2, ⟨hk.1.1.1.1.2, hk.1.1.2⟩⟩⟩)⟩, ⟨by (with_reducible repeat (first | apply Kd.R_alloc | apply Kd.R_drewN | apply Kd.R_drew)); exact Kd.R_mono HO162.out (fun _ hk => ⟨hk.1.1.1.1.1.1.1.2, ⟨hk.1.1.1.1.1.1.2, ⟨hk.1.1.1.1.2, hk.1.1.1.2⟩⟩⟩)⟩, ⟨by repeat (first | (with_reducible first | exact HB.out | apply below_alloc | apply pw_below_drewN | apply below_drew1) | exact HB.out)⟩⟩
      · rw [if_neg c27] at H
        have c27b0 : (t132 == 0) = false := beq_eq_false_iff_ne.mpr c27
        have c27b1 : (t132 != 0) = true := bne_iff_ne.mpr c27
        have H' := Aside0.mk H
        clear H
        go_wp2
        go_meet
        case rel => exact ⟨_, (true), (by first | rfl | (simp; done) | (simp [*]; done)), H', ⟨by first | omega | exact Nat.le_refl _⟩, ⟨by (with_reducible repeat (first | apply Kd.R_alloc | apply Kd.R_drewN | apply Kd.R_drew)); exact Kd.R_mono HO134.out (fun _ hk => ⟨hk.1.1.1.1.1.1.1.2, ⟨hk.1.1.1.1.1.2, ⟨hk.1.1.1.1.2, hk.1.1.2⟩⟩⟩)⟩, ⟨by (with_reducible repeat (first | apply Kd.R_alloc | apply Kd.R_drewN | apply Kd.R_drew)); exact Kd.R_mono HO137.out (fun _ hk => ⟨hk.1.1.1.1.1.1.1.2, ⟨hk.1.1.1.1.1.2, ⟨hk.1.1.1.1.2, hk.1.1.2⟩⟩⟩)⟩, ⟨by (with_reducible repeat (first | apply Kd.R_alloc | apply Kd.R_drewN | apply Kd.R_drew)); exact Kd.R_mono HO147.out (fun _ hk => ⟨hk.1.1.1.1.1.1.1.2, ⟨hk.1.1.1.1.1.1.2, ⟨hk.1.1.1.1.2, hk.1.1.2⟩⟩⟩)⟩, ⟨by (with_reducible repeat (first | apply Kd.R_alloc | apply Kd.R_drewN | apply Kd.R_drew)); exact Kd.R_mono HO152.out (fun _ hk => ⟨hk.1.1.1.1.1.1.1.2, ⟨hk.1.1.1.1.1.1.2, ⟨hk.1.1.1.1.2, hk.1.1.2⟩⟩⟩)⟩, ⟨by (with_reducible repeat (first | apply Kd.R_alloc | apply Kd.R_drewN | apply Kd.R_drew)); exact Kd.R_mono HO162.out (fun _ hk => ⟨hk.1.1.1.1.1.1.1.2, ⟨hk.1.1.1.1.1.1.2, ⟨hk.1.1.1.1.2, hk.1.1.1.2⟩⟩⟩)⟩, ⟨by repeat (first | (with_reducible first | exact HB.out | apply below_alloc | apply pw_below_drewN | apply below_drew1) | exact HB.out)⟩⟩
    · rw [if_neg c26] at H
      have c26b0 : (t131 == 0) = false := beq_eq_false_iff_ne.mpr c26
      have c26b1 : (t131 != 0) = true := bne_iff_ne.mpr c26
      (first | rw [c26b0] | (simp only [i64_w, i32_w]; rw [c26b0]) | skip)
      have H' := Aside0.mk H
      clear H
      go_wp2
      go_meet
      case rel => exact ⟨_, (true), (by first | rfl | (simp; done) | (simp [*]; done)), H', ⟨by first | omega | exact Nat.le_refl _⟩, ⟨by (with_reducible repeat (first | apply Kd.R_alloc | apply Kd.R_drewN | apply Kd.R_drew)); exact Kd.R_mono HO134.out (fun _ hk => ⟨hk.1.1.1.1.1.1.1.2, ⟨hk.1.1.1.1.1.2, ⟨hk.1.1.1.1.2, hk.1.1.2⟩⟩⟩)⟩, ⟨by (with_reducible repeat (first | apply Kd.R_alloc | apply Kd.R_drewN | apply Kd.R_drew)); exact Kd.R_mono HO137.out (fun _ hk => ⟨hk.1.1.1.1.1.1.1.2, ⟨hk.1.1.1.1.1.2, ⟨hk.1.1.1.1.2, hk.1.1.2⟩⟩⟩)⟩, ⟨by (with_reducible repeat (first | apply Kd.R_alloc | apply Kd.R_drewN | apply Kd.R_drew)); exact Kd.R_mono HO147.out (fun _ hk => ⟨hk.1.1.1.1.1.1.1.2, ⟨hk.1.1.1.1.1.1.2, ⟨hk.1.1.1.1.2, hk.1.1.2⟩⟩⟩)⟩, ⟨by (with_reducible repeat (first | apply Kd.R_alloc | apply Kd.R_drewN | apply Kd.R_drew)); exact Kd.R_mono HO152.out (fun _ hk => ⟨hk.1.1.1.1.1.1.1.2, ⟨hk.1.1.1.1.1.1.2, ⟨hk.1.1.1.1.2, hk.1.1.2⟩⟩⟩)⟩, ⟨by (with_reducible repeat (first | apply Kd.R_alloc | apply Kd.R_drewN | apply Kd.R_drew)); exact Kd.R_mono HO162.out (fun _ hk => ⟨hk.1.1.1.1.1.1.1.2, ⟨hk.1.1.1.1.1.1.2, ⟨hk.1.1.1.1.2, hk.1.1.1.2⟩⟩⟩)⟩, ⟨by repeat (first | (with_reducible first | exact HB.out | apply below_alloc | apply pw_below_drewN | apply below_drew1) | exact HB.out)⟩⟩
  case rest =>
    clear HC10
    try clear c1
    try clear c2
    try clear p2
    try clear c3
    try clear c4
    try clear c11
    try clear c12
    try clear c16
    try clear c26
    try clear c26b0
    try clear c26b1
    try clear c27
    try clear c27b0
    try clear c27b1
    try clear c28
    try clear c28b0
    try clear c28b1
    try clear c29
    try clear c29b0
    try clear c29b1
    try clear c30
    try clear c30b0
    try clear c30b1
    try clear c31
    try clear c31b0
    try clear c31b1
    try clear c32
    try clear c32b0
    try clear c32b1
    try clear c33
    try clear c33b0
    try clear c33b1
    try clear c34
    try clear c34b0
    try clear c34b1
    try clear c35
    try clear c35b0
    try clear c35b1
    try clear c36
    try clear c36b0
    try clear c36b1
    try clear c37
    try clear c37b0
    try clear c37b1
    obtain ⟨kq, x127_9, rfl, HA, HJ9, HO_1, HO_4, HO_8, HO_11, HO_17, HB⟩ := hcut
    cases kq with
    | zero => exact absurd HA.out (by simp [testamurlaw09_sane.j0])
    | succ kj9 =>
      have H := HA.out
      clear HA
      simp only [testamurlaw09_sane.j0] at H
      by_cases c39 : x127_9 = true
      · subst c39
        have H1 : (some false) = some r := by rw [if_pos rfl] at H; exact H
        clear H
        have H := H1
        clear H1
        obtain rfl := Option.some.inj H
        go_wp2
        go_ret
        exact ⟨by first | rfl | (simp [errW_none, errW_some] <;> rfl) | (simp [*, errW_none, errW_some] <;> rfl), by repeat (first | (with_reducible first | exact HB.out | apply below_alloc | apply pw_below_drewN | apply below_drew1) | exact HB.out)⟩
      · replace c39 := Bool.eq_false_iff.mpr c39
        subst c39
        have H1 : ((testamurref09_Equal.f kj9 t130 y135).bind fun t175 => (if t175 = true then (if (t143.length : Int) = 1 then (if 0 < (t143.length : Int) then (if ((rd_T35 t143 0).f2) = 1099511627776 then (if (t148.length : Int) = 1 then (if 0 < (t148.length : Int) then (if ((rd_T35 t148 0).f1).toList = ([97] : List UInt8) then (if t163.toList = ([97, 32, 61, 32, 49] : List UInt8) then ((lex_Name.f kj9 (⟨#[66, 95, 49, 50]⟩ : ByteArray)).bind fun t178 => (if t178 = true then ((lex_Name.f kj9 (⟨#[95, 49, 50]⟩ : ByteArray)).bind fun t179 => (if t179 = true then (some false) else ((lex_Same.f t148 t158).bind fun t180 => (if t180 = true then (some false) else ((lex_Same.f t148 (([(⟨1, (⟨#[97]⟩ : ByteArray), 0, 9⟩ : S35)] : List (S35)))).bind fun t184 => (some t184)))))) else (some false))) else (some false)) else (some false)) else (none)) else (some false)) else (some false)) else (none)) else (some false)) else (some false))) = some r := by rw [if_neg (show ¬ (false = true) by decide)] at H; exact H
        clear H
        have H := H1
        clear H1
        replace H := Option.bind_eq_some_iff.mp H
        obtain ⟨t175, A400, H⟩ := H
        replace H : (if t175 = true then (if (t143.length : Int) = 1 then (if 0 < (t143.length : Int) then (if ((rd_T35 t143 0).f2) = 1099511627776 then (if (t148.length : Int) = 1 then (if 0 < (t148.length : Int) then (if ((rd_T35 t148 0).f1).toList = ([97] : List UInt8) then (if t163.toList = ([97, 32, 61, 32, 49] : List UInt8) then ((lex_Name.f kj9 (⟨#[66, 95, 49, 50]⟩ : ByteArray)).bind fun t178 => (if t178 = true then ((lex_Name.f kj9 (⟨#[95, 49, 50]⟩ : ByteArray)).bind fun t179 => (if t179 = true then (some false) else ((lex_Same.f t148 t158).bind fun t180 => (if t180 = true then (some false) else ((lex_Same.f t148 (([(⟨1, (⟨#[97]⟩ : ByteArray), 0, 9⟩ : S35)] : List (S35)))).bind fun t184 => (some t184)))))) else (some false))) else (some false)) else (some false)) else (none)) else (some false)) else (some false)) else (none)) else (some false)) else (some false)) = some r := H
        have A40 := Aside0.mk A400
        clear A400
        by_cases c41 : t175 = true
        · subst c41
          have H1 : (if (t143.length : Int) = 1 then (if 0 < (t143.length : Int) then (if ((rd_T35 t143 0).f2) = 1099511627776 then (if (t148.length : Int) = 1 then (if 0 < (t148.length : Int) then (if ((rd_T35 t148 0).f1).toList = ([97] : List UInt8) then (if t163.toList = ([97, 32, 61, 32, 49] : List UInt8) then ((lex_Name.f kj9 (⟨#[66, 95, 49, 50]⟩ : ByteArray)).bind fun t178 => (if t178 = true then ((lex_Name.f kj9 (⟨#[95, 49, 50]⟩ : ByteArray)).bind fun t179 => (if t179 = true then (some false) else ((lex_Same.f t148 t158).bind fun t180 => (if t180 = true then (some false) else ((lex_Same.f t148 (([(⟨1, (⟨#[97]⟩ : ByteArray), 0, 9⟩ : S35)] : List (S35)))).bind fun t184 => (some t184)))))) else (some false))) else (some false)) else (some false)) else (none)) else (some false)) else (some false)) else (none)) else (some false)) = some r := by rw [if_pos rfl] at H; exact H
          clear H
          have H := H1
          clear H1
          by_cases c42 : (t143.length : Int) = 1
          · rw [if_pos c42] at H
            have c42b0 : ((t143.length : Int) == 1) = true := beq_iff_eq.mpr c42
            have c42b1 : ((t143.length : Int) != 1) = false := bne_eq_false_iff_eq.mpr c42
            clear c42
            by_cases c43 : 0 < (t143.length : Int)
            · rw [if_pos c43] at H
              have c43b0 : decide (0 < (t143.length : Int)) = true := decide_eq_true c43
              have c43b1 : decide (0 < t143.length) = true := decide_eq_true (by omega)
              clear c43
              by_cases c44 : ((rd_T35 t143 0).f2) = 1099511627776
              · rw [if_pos c44] at H
                have c44b0 : (((rd_T35 t143 0).f2) == 1099511627776) = true := beq_iff_eq.mpr c44
                have c44b1 : (((rd_T35 t143 0).f2) != 1099511627776) = false := bne_eq_false_iff_eq.mpr c44
                clear c44
                by_cases c45 : (t148.length : Int) = 1
                · rw [if_pos c45] at H
                  have c45b0 : ((t148.length : Int) == 1) = true := beq_iff_eq.mpr c45
                  have c45b1 : ((t148.length : Int) != 1) = false := bne_eq_false_iff_eq.mpr c45
                  clear c45
                  by_cases c46 : 0 < (t148.length : Int)
                  · rw [if_pos c46] at H
                    have c46b0 : decide (0 < (t148.length : Int)) = true := decide_eq_true c46
                    have c46b1 : decide (0 < t148.length) = true := decide_eq_true (by omega)
                    clear c46
                    by_cases c47 : ((rd_T35 t148 0).f1).toList = ([97] : List UInt8)
                    · rw [if_pos c47] at H
                      have c47b0 : (((rd_T35 t148 0).f1).toList == ([97] : List UInt8)) = true := beq_iff_eq.mpr c47
                      have c47b1 : (((rd_T35 t148 0).f1).toList != ([97] : List UInt8)) = false := bne_eq_false_iff_eq.mpr c47
                      clear c47
                      by_cases c48 : t163.toList = ([97, 32, 61, 32, 49] : List UInt8)
                      · rw [if_pos c48] at H
                        have c48b0 : (t163.toList == ([97, 32, 61, 32, 49] : List UInt8)) = true := beq_iff_eq.mpr c48
                        have c48b1 : (t163.toList != ([97, 32, 61, 32, 49] : List UInt8)) = false := bne_eq_false_iff_eq.mpr c48
                        clear c48
                        replace H := Option.bind_eq_some_iff.mp H
                        obtain ⟨t178, A490, H⟩ := H
                        replace H : (if t178 = true then ((lex_Name.f kj9 (⟨#[95, 49, 50]⟩ : ByteArray)).bind fun t179 => (if t179 = true then (some false) else ((lex_Same.f t148 t158).bind fun t180 => (if t180 = true then (some false) else ((lex_Same.f t148 (([(⟨1, (⟨#[97]⟩ : ByteArray), 0, 9⟩ : S35)] : List (S35)))).bind fun t184 => (some t184)))))) else (some false)) = some r := H
                        have A49 := Aside0.mk A490
                        clear A490
                        by_cases c50 : t178 = true
                        · subst c50
                          have H1 : ((lex_Name.f kj9 (⟨#[95, 49, 50]⟩ : ByteArray)).bind fun t179 => (if t179 = true then (some false) else ((lex_Same.f t148 t158).bind fun t180 => (if t180 = true then (some false) else ((lex_Same.f t148 (([(⟨1, (⟨#[97]⟩ : ByteArray), 0, 9⟩ : S35)] : List (S35)))).bind fun t184 => (some t184)))))) = some r := by rw [if_pos rfl] at H; exact H
                          clear H
                          have H := H1
                          clear H1
                          replace H := Option.bind_eq_some_iff.mp H
                          obtain ⟨t179, A510, H⟩ := H
                          replace H : (if t179 = true then (some false) else ((lex_Same.f t148 t158).bind fun t180 => (if t180 = true then (some false) else ((lex_Same.f t148 (([(⟨1, (⟨#[97]⟩ : ByteArray), 0, 9⟩ : S35)] : List (S35)))).bind fun t184 => (some t184))))) = some r := H
                          have A51 := Aside0.mk A510
                          clear A510
                          by_cases c52 : t179 = true
                          · subst c52
                            have H1 : (some false) = some r := by rw [if_pos rfl] at H; exact H
                            clear H
                            have H := H1
                            clear H1
                            obtain rfl := Option.some.inj H
                            obtain ⟨Ao53, co53, eo53⟩ := Kd.R_slice HO_1.out
                            subst eo53
                            obtain ⟨Ao54, co54, eo54⟩ := Kd.R_slice HO_4.out
                            subst eo54
                            go_wp2_with (first | ((with_reducible refine gate_callee (f := 14) rfl ?_); refine goesL_ (some 130) rfl rfl Tryd.func14 (by kernel_rfl) rfl #[.slice Ao53 t130.length co53, .slice Ao54 y135.length co54] rfl (by (try simp only [List.map_toArray, List.map_cons, List.map_nil]); first | done | rfl | (simp only [List.length_drop, List.length_take]; rfl)) ?_; (with_reducible refine (testamurref09_Equal.calls kj9 _ _ t130 _ _ y135 true _ ?side1 ?side2 ?side3 ?side4 A40.out).mono ?_); (case side1 => repeat (first | exact (Kd.R_reads' HO_1.out).2.2 | (with_reducible refine Kd.C_alloc ?_ _) | (with_reducible refine Kd.C_drewN ?_ _) | (with_reducible refine Kd.C_drew ?_))); (case side2 => exact (Kd.R_reads' HO_1.out).2.1); (case side3 => repeat (first | exact (Kd.R_reads' HO_4.out).2.2 | (with_reducible refine Kd.C_alloc ?_ _) | (with_reducible refine Kd.C_drewN ?_ _) | (with_reducible refine Kd.C_drew ?_))); (case side4 => exact (Kd.R_reads' HO_4.out).2.1); rintro e w' ⟨rfl, ⟨nd, rfl⟩⟩; refine ⟨_, rfl, ?_⟩; obtain ⟨Ao55, co55, eo55⟩ := Kd.R_slice HO_8.out; subst eo55; have p176 : 0 ≤ (0 : Int) := (by omega); have q176 : 0 < (t143.length : Int) := of_decide_eq_true (by first | (with_reducible assumption) | assumption); obtain ⟨ad176, e176, hx176_0, hx176_1, hx176_2, hx176_3⟩ := at_T35 (Kd.R_reads' HO_8.out).2.2 0 p176 q176; cases e176; have qi176 : (0 < t143.length) = True := eq_true (by omega); (try rw [show ((0 : Int)).toNat = 0 from rfl] at hx176_0); (try rw [show 0 * 4 = 0 from rfl] at hx176_0); (try rw [Addr.add_zero'] at hx176_0); (try rw [show ((0 : Int)).toNat = 0 from rfl] at hx176_1); (try rw [show 0 * 4 = 0 from rfl] at hx176_1); (try rw [Addr.add_zero'] at hx176_1); (try rw [show ((0 : Int)).toNat = 0 from rfl] at hx176_2); (try rw [show 0 * 4 = 0 from rfl] at hx176_2); (try rw [Addr.add_zero'] at hx176_2); (try rw [show ((0 : Int)).toNat = 0 from rfl] at hx176_3); (try rw [show 0 * 4 = 0 from rfl] at hx176_3); (try rw [Addr.add_zero'] at hx176_3); replace p176 := eq_true p176; replace q176 := eq_true q176; obtain ⟨Ao56, co56, eo56⟩ := Kd.R_slice HO_11.out; subst eo56; have p177 : 0 ≤ (0 : Int) := (by omega); have q177 : 0 < (t148.length : Int) := of_decide_eq_true (by first | (with_reducible assumption) | assumption); obtain ⟨ad177, e177, hx177_0, hx177_1, hx177_2, hx177_3⟩ := at_T35 (Kd.R_reads' HO_11.out).2.2 0 p177 q177; cases e177; have qi177 : (0 < t148.length) = True := eq_true (by omega); (try rw [show ((0 : Int)).toNat = 0 from rfl] at hx177_0); (try rw [show 0 * 4 = 0 from rfl] at hx177_0); (try rw [Addr.add_zero'] at hx177_0); (try rw [show ((0 : Int)).toNat = 0 from rfl] at hx177_1); (try rw [show 0 * 4 = 0 from rfl] at hx177_1); (try rw [Addr.add_zero'] at hx177_1); (try rw [show ((0 : Int)).toNat = 0 from rfl] at hx177_2); (try rw [show 0 * 4 = 0 from rfl] at hx177_2); (try rw [Addr.add_zero'] at hx177_2); (try rw [show ((0 : Int)).toNat = 0 from rfl] at hx177_3); (try rw [show 0 * 4 = 0 from rfl] at hx177_3); (try rw [Addr.add_zero'] at hx177_3); replace p177 := eq_true p177; replace q177 := eq_true q177) | (go_at_call 20; (with_reducible refine (lex_Name.calls kj9 (⟨#[66, 95, 49, 50]⟩ : ByteArray) true _ A49.out).mono ?_); rintro e w' ⟨rfl, ⟨nd, rfl⟩⟩) | (go_at_call 20; (with_reducible refine (lex_Name.calls kj9 (⟨#[95, 49, 50]⟩ : ByteArray) true _ A51.out).mono ?_); rintro e w' ⟨rfl, ⟨nd, rfl⟩⟩))
                            go_ret
                            exact ⟨by first | rfl | (simp [errW_none, errW_some] <;> rfl) | (simp [*, errW_none, errW_some] <;> rfl), by repeat (first | (with_reducible first | exact HB.out | apply below_alloc | apply pw_below_drewN | apply below_drew1) | exact HB.out)⟩
                          · replace c52 := Bool.eq_false_iff.mpr c52
                            subst c52
                            have H1 : ((lex_Same.f t148 t158).bind fun t180 => (if t180 = true then (some false) else ((lex_Same.f t148 (([(⟨1, (⟨#[97]⟩ : ByteArray), 0, 9⟩ : S35)] : List (S35)))).bind fun t184 => (some t184)))) = some r := by rw [if_neg (show ¬ (false = true) by decide)] at H; exact H
                            clear H
                            have H := H1
                            clear H1
                            replace H := Option.bind_eq_some_iff.mp H
                            obtain ⟨t180, A570, H⟩ := H
                            replace H : (if t180 = true then (some false) else ((lex_Same.f t148 (([(⟨1, (⟨#[97]⟩ : ByteArray), 0, 9⟩ : S35)] : List (S35)))).bind fun t184 => (some t184))) = some r := H
                            have A57 := Aside0.mk A570
                            clear A570
                            by_cases c58 : t180 = true
                            · subst c58
                              have H1 : (some false) = some r := by rw [if_pos rfl] at H; exact H
                              clear H
                              have H := H1
                              clear H1
                              obtain rfl := Option.some.inj H
                              obtain ⟨Ao59, co59, eo59⟩ := Kd.R_slice HO_1.out
                              subst eo59
                              obtain ⟨Ao60, co60, eo60⟩ := Kd.R_slice HO_4.out
                              subst eo60
                              go_wp2_with (first | ((with_reducible refine gate_callee (f := 14) rfl ?_); refine goesL_ (some 130) rfl rfl Tryd.func14 (by kernel_rfl) rfl #[.slice Ao59 t130.length co59, .slice Ao60 y135.length co60] rfl (by (try simp only [List.map_toArray, List.map_cons, List.map_nil]); first | done | rfl | (simp only [List.length_drop, List.length_take]; rfl)) ?_; (with_reducible refine (testamurref09_Equal.calls kj9 _ _ t130 _ _ y135 true _ ?side1 ?side2 ?side3 ?side4 A40.out).mono ?_); (case side1 => repeat (first | exact (Kd.R_reads' HO_1.out).2.2 | (with_reducible refine Kd.C_alloc ?_ _) | (with_reducible refine Kd.C_drewN ?_ _) | (with_reducible refine Kd.C_drew ?_))); (case side2 => exact (Kd.R_reads' HO_1.out).2.1); (case side3 => repeat (first | exact (Kd.R_reads' HO_4.out).2.2 | (with_reducible refine Kd.C_alloc ?_ _) | (with_reducible refine Kd.C_drewN ?_ _) | (with_reducible refine Kd.C_drew ?_))); (case side4 => exact (Kd.R_reads' HO_4.out).2.1); rintro e w' ⟨rfl, ⟨nd, rfl⟩⟩; refine ⟨_, rfl, ?_⟩; obtain ⟨Ao61, co61, eo61⟩ := Kd.R_slice HO_8.out; subst eo61; have p176 : 0 ≤ (0 : Int) := (by omega); have q176 : 0 < (t143.length : Int) := of_decide_eq_true (by first | (with_reducible assumption) | assumption); obtain ⟨ad176, e176, hx176_0, hx176_1, hx176_2, hx176_3⟩ := at_T35 (Kd.R_reads' HO_8.out).2.2 0 p176 q176; cases e176; have qi176 : (0 < t143.length) = True := eq_true (by omega); (try rw [show ((0 : Int)).toNat = 0 from rfl] at hx176_0); (try rw [show 0 * 4 = 0 from rfl] at hx176_0); (try rw [Addr.add_zero'] at hx176_0); (try rw [show ((0 : Int)).toNat = 0 from rfl] at hx176_1); (try rw [show 0 * 4 = 0 from rfl] at hx176_1); (try rw [Addr.add_zero'] at hx176_1); (try rw [show ((0 : Int)).toNat = 0 from rfl] at hx176_2); (try rw [show 0 * 4 = 0 from rfl] at hx176_2); (try rw [Addr.add_zero'] at hx176_2); (try rw [show ((0 : Int)).toNat = 0 from rfl] at hx176_3); (try rw [show 0 * 4 = 0 from rfl] at hx176_3); (try rw [Addr.add_zero'] at hx176_3); replace p176 := eq_true p176; replace q176 := eq_true q176; obtain ⟨Ao62, co62, eo62⟩ := Kd.R_slice HO_11.out; subst eo62; have p177 : 0 ≤ (0 : Int) := (by omega); have q177 : 0 < (t148.length : Int) := of_decide_eq_true (by first | (with_reducible assumption) | assumption); obtain ⟨ad177, e177, hx177_0, hx177_1, hx177_2, hx177_3⟩ := at_T35 (Kd.R_reads' HO_11.out).2.2 0 p177 q177; cases e177; have qi177 : (0 < t148.length) = True := eq_true (by omega); (try rw [show ((0 : Int)).toNat = 0 from rfl] at hx177_0); (try rw [show 0 * 4 = 0 from rfl] at hx177_0); (try rw [Addr.add_zero'] at hx177_0); (try rw [show ((0 : Int)).toNat = 0 from rfl] at hx177_1); (try rw [show 0 * 4 = 0 from rfl] at hx177_1); (try rw [Addr.add_zero'] at hx177_1); (try rw [show ((0 : Int)).toNat = 0 from rfl] at hx177_2); (try rw [show 0 * 4 = 0 from rfl] at hx177_2); (try rw [Addr.add_zero'] at hx177_2); (try rw [show ((0 : Int)).toNat = 0 from rfl] at hx177_3); (try rw [show 0 * 4 = 0 from rfl] at hx177_3); (try rw [Addr.add_zero'] at hx177_3); replace p177 := eq_true p177; replace q177 := eq_true q177) | (go_at_call 20; (with_reducible refine (lex_Name.calls kj9 (⟨#[66, 95, 49, 50]⟩ : ByteArray) true _ A49.out).mono ?_); rintro e w' ⟨rfl, ⟨nd, rfl⟩⟩) | (go_at_call 20; (with_reducible refine (lex_Name.calls kj9 (⟨#[95, 49, 50]⟩ : ByteArray) false _ A51.out).mono ?_); rintro e w' ⟨rfl, ⟨nd, rfl⟩⟩) | (go_at_call 18; (with_reducible refine (lex_Same.calls _ _ t148 _ _ t158 true _ ?side1 ?side2 ?side3 ?side4 A57.out).mono ?_); (case side1 => repeat (first | exact (Kd.R_reads' HO_11.out).2.2 | (with_reducible refine Kd.C_alloc ?_ _) | (with_reducible refine Kd.C_drewN ?_ _) | (with_reducible refine Kd.C_drew ?_))); (case side2 => exact (Kd.R_reads' HO_11.out).2.1); (case side3 => repeat (first | exact (Kd.R_reads' HO_17.out).2.2 | (with_reducible refine Kd.C_alloc ?_ _) | (with_reducible refine Kd.C_drewN ?_ _) | (with_reducible refine Kd.C_drew ?_))); (case side4 => exact (Kd.R_reads' HO_17.out).2.1); rintro e w63 ⟨rfl, hb⟩; have n0_ := Aside0.mk (Kd.R_below (by (with_reducible repeat (first | apply Kd.R_alloc | apply Kd.R_drewN | apply Kd.R_drew)); exact HO_1.out) hb); have n1_ := Aside0.mk (Kd.R_below (by (with_reducible repeat (first | apply Kd.R_alloc | apply Kd.R_drewN | apply Kd.R_drew)); exact HO_4.out) hb); have n2_ := Aside0.mk (Kd.R_below (by (with_reducible repeat (first | apply Kd.R_alloc | apply Kd.R_drewN | apply Kd.R_drew)); exact HO_8.out) hb); have n3_ := Aside0.mk (Kd.R_below (by (with_reducible repeat (first | apply Kd.R_alloc | apply Kd.R_drewN | apply Kd.R_drew)); exact HO_11.out) hb); have n4_ := Aside0.mk (Kd.R_below (by (with_reducible repeat (first | apply Kd.R_alloc | apply Kd.R_drewN | apply Kd.R_drew)); exact HO_17.out) hb); have n5_ := Aside0.mk (below_step (by repeat (first | (with_reducible first | exact HB.out | apply below_alloc | apply pw_below_drewN | apply below_drew1) | exact HB.out)) hb); clear HO_1; clear HO_4; clear HO_8; clear HO_11; clear HO_17; clear HB; have HO_1 := n0_; have HO_4 := n1_; have HO_8 := n2_; have HO_11 := n3_; have HO_17 := n4_; have HB := n5_; clear n0_ n1_ n2_ n3_ n4_ n5_; (try clear hb); (try clear hb2); (try clear hk); (try clear hi)))
                              go_ret
                              exact ⟨by first | rfl | (simp [errW_none, errW_some] <;> rfl) | (simp [*, errW_none, errW_some] <;> rfl), by repeat (first | (with_reducible first | exact HB.out | apply below_alloc | apply pw_below_drewN | apply below_drew1) | exact HB.out)⟩
                            · replace c58 := Bool.eq_false_iff.mpr c58
                              subst c58
                              have H1 : ((lex_Same.f t148 (([(⟨1, (⟨#[97]⟩ : ByteArray), 0, 9⟩ : S35)] : List (S35)))).bind fun t184 => (some t184)) = some r := by rw [if_neg (show ¬ (false = true) by decide)] at H; exact H
                              clear H
                              have H := H1
                              clear H1
                              obtain ⟨y181, hy181⟩ : ∃ y_ : List (S35), y_ = (([(⟨1, (⟨#[97]⟩ : ByteArray), 0, 9⟩ : S35)] : List (S35))) := ⟨_, rfl⟩
                              replace H : ((lex_Same.f t148 y181).bind fun t184 => (some t184)) = some r := by first | (rw [hy181]; with_reducible exact H) | (have H2_ := (Option.bind_some _ _).symm.trans H; rw [hy181]; with_reducible exact H2_) | (have H2_ := (Option.bind_some _ _).symm.trans H; with_reducible exact H2_) | with_reducible exact H | (rw [hy181]; exact H) | exact H
                              have Ny181 := Aside0.mk hy181
                              clear hy181
                              replace H := Option.bind_eq_some_iff.mp H
                              obtain ⟨t184, A640, H⟩ := H
                              replace H : (some t184) = some r := H
                              have A64 := Aside0.mk A640
                              clear A640
                              obtain rfl := Option.some.inj H
                              obtain ⟨Ao65, co65, eo65⟩ := Kd.R_slice HO_1.out
                              subst eo65
                              obtain ⟨Ao66, co66, eo66⟩ := Kd.R_slice HO_4.out
                              subst eo66
                              go_wp2_with (first | ((with_reducible refine gate_callee (f := 14) rfl ?_); refine goesL_ (some 130) rfl rfl Tryd.func14 (by kernel_rfl) rfl #[.slice Ao65 t130.length co65, .slice Ao66 y135.length co66] rfl (by (try simp only [List.map_toArray, List.map_cons, List.map_nil]); first | done | rfl | (simp only [List.length_drop, List.length_take]; rfl)) ?_; (with_reducible refine (testamurref09_Equal.calls kj9 _ _ t130 _ _ y135 true _ ?side1 ?side2 ?side3 ?side4 A40.out).mono ?_); (case side1 => repeat (first | exact (Kd.R_reads' HO_1.out).2.2 | (with_reducible refine Kd.C_alloc ?_ _) | (with_reducible refine Kd.C_drewN ?_ _) | (with_reducible refine Kd.C_drew ?_))); (case side2 => exact (Kd.R_reads' HO_1.out).2.1); (case side3 => repeat (first | exact (Kd.R_reads' HO_4.out).2.2 | (with_reducible refine Kd.C_alloc ?_ _) | (with_reducible refine Kd.C_drewN ?_ _) | (with_reducible refine Kd.C_drew ?_))); (case side4 => exact (Kd.R_reads' HO_4.out).2.1); rintro e w' ⟨rfl, ⟨nd, rfl⟩⟩; refine ⟨_, rfl, ?_⟩; obtain ⟨Ao67, co67, eo67⟩ := Kd.R_slice HO_8.out; subst eo67; have p176 : 0 ≤ (0 : Int) := (by omega); have q176 : 0 < (t143.length : Int) := of_decide_eq_true (by first | (with_reducible assumption) | assumption); obtain ⟨ad176, e176, hx176_0, hx176_1, hx176_2, hx176_3⟩ := at_T35 (Kd.R_reads' HO_8.out).2.2 0 p176 q176; cases e176; have qi176 : (0 < t143.length) = True := eq_true (by omega); (try rw [show ((0 : Int)).toNat = 0 from rfl] at hx176_0); (try rw [show 0 * 4 = 0 from rfl] at hx176_0); (try rw [Addr.add_zero'] at hx176_0); (try rw [show ((0 : Int)).toNat = 0 from rfl] at hx176_1); (try rw [show 0 * 4 = 0 from rfl] at hx176_1); (try rw [Addr.add_zero'] at hx176_1); (try rw [show ((0 : Int)).toNat = 0 from rfl] at hx176_2); (try rw [show 0 * 4 = 0 from rfl] at hx176_2); (try rw [Addr.add_zero'] at hx176_2); (try rw [show ((0 : Int)).toNat = 0 from rfl] at hx176_3); (try rw [show 0 * 4 = 0 from rfl] at hx176_3); (try rw [Addr.add_zero'] at hx176_3); replace p176 := eq_true p176; replace q176 := eq_true q176; obtain ⟨Ao68, co68, eo68⟩ := Kd.R_slice HO_11.out; subst eo68; have p177 : 0 ≤ (0 : Int) := (by omega); have q177 : 0 < (t148.length : Int) := of_decide_eq_true (by first | (with_reducible assumption) | assumption); obtain ⟨ad177, e177, hx177_0, hx177_1, hx177_2, hx177_3⟩ := at_T35 (Kd.R_reads' HO_11.out).2.2 0 p177 q177; cases e177; have qi177 : (0 < t148.length) = True := eq_true (by omega); (try rw [show ((0 : Int)).toNat = 0 from rfl] at hx177_0); (try rw [show 0 * 4 = 0 from rfl] at hx177_0); (try rw [Addr.add_zero'] at hx177_0); (try rw [show ((0 : Int)).toNat = 0 from rfl] at hx177_1); (try rw [show 0 * 4 = 0 from rfl] at hx177_1); (try rw [Addr.add_zero'] at hx177_1); (try rw [show ((0 : Int)).toNat = 0 from rfl] at hx177_2); (try rw [show 0 * 4 = 0 from rfl] at hx177_2); (try rw [Addr.add_zero'] at hx177_2); (try rw [show ((0 : Int)).toNat = 0 from rfl] at hx177_3); (try rw [show 0 * 4 = 0 from rfl] at hx177_3); (try rw [Addr.add_zero'] at hx177_3); replace p177 := eq_true p177; replace q177 := eq_true q177) | (go_at_call 20; (with_reducible refine (lex_Name.calls kj9 (⟨#[66, 95, 49, 50]⟩ : ByteArray) true _ A49.out).mono ?_); rintro e w' ⟨rfl, ⟨nd, rfl⟩⟩) | (go_at_call 20; (with_reducible refine (lex_Name.calls kj9 (⟨#[95, 49, 50]⟩ : ByteArray) false _ A51.out).mono ?_); rintro e w' ⟨rfl, ⟨nd, rfl⟩⟩) | (go_at_call 18; (with_reducible refine (lex_Same.calls _ _ t148 _ _ t158 false _ ?side1 ?side2 ?side3 ?side4 A57.out).mono ?_); (case side1 => repeat (first | exact (Kd.R_reads' HO_11.out).2.2 | (with_reducible refine Kd.C_alloc ?_ _) | (with_reducible refine Kd.C_drewN ?_ _) | (with_reducible refine Kd.C_drew ?_))); (case side2 => exact (Kd.R_reads' HO_11.out).2.1); (case side3 => repeat (first | exact (Kd.R_reads' HO_17.out).2.2 | (with_reducible refine Kd.C_alloc ?_ _) | (with_reducible refine Kd.C_drewN ?_ _) | (with_reducible refine Kd.C_drew ?_))); (case side4 => exact (Kd.R_reads' HO_17.out).2.1); rintro e w69 ⟨rfl, hb⟩; have n0_ := Aside0.mk (Kd.R_below (by (with_reducible repeat (first | apply Kd.R_alloc | apply Kd.R_drewN | apply Kd.R_drew)); exact HO_1.out) hb); have n1_ := Aside0.mk (Kd.R_below (by (with_reducible repeat (first | apply Kd.R_alloc | apply Kd.R_drewN | apply Kd.R_drew)); exact HO_4.out) hb); have n2_ := Aside0.mk (Kd.R_below (by (with_reducible repeat (first | apply Kd.R_alloc | apply Kd.R_drewN | apply Kd.R_drew)); exact HO_8.out) hb); have n3_ := Aside0.mk (Kd.R_below (by (with_reducible repeat (first | apply Kd.R_alloc | apply Kd.R_drewN | apply Kd.R_drew)); exact HO_11.out) hb); have n4_ := Aside0.mk (Kd.R_below (by (with_reducible repeat (first | apply Kd.R_alloc | apply Kd.R_drewN | apply Kd.R_drew)); exact HO_17.out) hb); have n5_ := Aside0.mk (below_step (by repeat (first | (with_reducible first | exact HB.out | apply below_alloc | apply pw_below_drewN | apply below_drew1) | exact HB.out)) hb); clear HO_1; clear HO_4; clear HO_8; clear HO_11; clear HO_17; clear HB; have HO_1 := n0_; have HO_4 := n1_; have HO_8 := n2_; have HO_11 := n3_; have HO_17 := n4_; have HB := n5_; clear n0_ n1_ n2_ n3_ n4_ n5_; (try clear hb); (try clear hb2); (try clear hk); (try clear hi)) | ((with_reducible refine gate_dst (N := 175) rfl ?_); (try (refine gate_guard (by rfl) ?_; dsimp only)); refine Kd.R_lit k35 _ 35 ?hg (N := 175) ?hd (xs := ([(⟨1, (⟨#[97]⟩ : ByteArray), 0, 9⟩ : S35)] : List (S35))) (inner := [.int .i64 1, .string (⟨#[97]⟩ : ByteArray), .int .i64 0, .int .i64 9]) (ok := fun _ => True) (okp := fun _ => True) ?hr ?hp (fun _ hk => hk) trivial (Below.refl _ _) (Nat.le_refl _) (by simp) ?_; (case hd => rfl); (case hg => rfl); (case hr => first | (go_simp; done) | (go_simp; rfl)); (case hp => exact (Reps.c4 (show Kd.M k35 _ _ _ (⟨1, (⟨#[97]⟩ : ByteArray), 0, 9⟩ : S35) [.int .i64 1, .string (⟨#[97]⟩ : ByteArray), .int .i64 0, .int .i64 9] from (k35_mkM _ _ _ (⟨1, (⟨#[97]⟩ : ByteArray), 0, 9⟩ : S35) )) (Reps.none _ _))); intro v182 w70 ho71 hb hg_ hnew_; clear hg_ hnew_; (first | rw [← Ny181.out] at ho71 | (simp only [Int.reduceToNat] at ho71; rw [← Ny181.out] at ho71)); have n0_ := Aside0.mk (Kd.R_elder' (by (with_reducible repeat (first | apply Kd.R_alloc | apply Kd.R_drewN | apply Kd.R_drew)); exact HO_1.out) (Kd.R_base ho71) hb); have n1_ := Aside0.mk (Kd.R_elder' (by (with_reducible repeat (first | apply Kd.R_alloc | apply Kd.R_drewN | apply Kd.R_drew)); exact HO_4.out) (Kd.R_base ho71) hb); have n2_ := Aside0.mk (Kd.R_elder' (by (with_reducible repeat (first | apply Kd.R_alloc | apply Kd.R_drewN | apply Kd.R_drew)); exact HO_8.out) (Kd.R_base ho71) hb); have n3_ := Aside0.mk (Kd.R_elder' (by (with_reducible repeat (first | apply Kd.R_alloc | apply Kd.R_drewN | apply Kd.R_drew)); exact HO_11.out) (Kd.R_base ho71) hb); have n4_ := Aside0.mk (Kd.R_elder' (by (with_reducible repeat (first | apply Kd.R_alloc | apply Kd.R_drewN | apply Kd.R_drew)); exact HO_17.out) (Kd.R_base ho71) hb); have n5_ := Aside0.mk (Kd.R_lower (Kd.R_new' (Kd.R_new' (Kd.R_new' (Kd.R_new' (Kd.R_new' ho71 (Kd.R_lt (by (with_reducible repeat (first | apply Kd.R_alloc | apply Kd.R_drewN | apply Kd.R_drew)); exact HO_1.out))) (Kd.R_lt (by (with_reducible repeat (first | apply Kd.R_alloc | apply Kd.R_drewN | apply Kd.R_drew)); exact HO_4.out))) (Kd.R_lt (by (with_reducible repeat (first | apply Kd.R_alloc | apply Kd.R_drewN | apply Kd.R_drew)); exact HO_8.out))) (Kd.R_lt (by (with_reducible repeat (first | apply Kd.R_alloc | apply Kd.R_drewN | apply Kd.R_drew)); exact HO_11.out))) (Kd.R_lt (by (with_reducible repeat (first | apply Kd.R_alloc | apply Kd.R_drewN | apply Kd.R_drew)); exact HO_17.out))) (below_size (by repeat (first | (with_reducible first | exact HB.out | apply below_alloc | apply pw_below_drewN | apply below_drew1) | exact HB.out)))); have n6_ := Aside0.mk (below_step (by repeat (first | (with_reducible first | exact HB.out | apply below_alloc | apply pw_below_drewN | apply below_drew1) | exact HB.out)) hb); clear HO_1; clear HO_4; clear HO_8; clear HO_11; clear HO_17; clear HB; have HO_1 := n0_; have HO_4 := n1_; have HO_8 := n2_; have HO_11 := n3_; have HO_17 := n4_; have HO183 := n5_; have HB := n6_; clear n0_ n1_ n2_ n3_ n4_ n5_ n6_; clear hb ho71; obtain ⟨Ao72, co72, eo72⟩ := Kd.R_slice HO183.out; subst eo72) | (go_at_call 18; (with_reducible refine (lex_Same.calls _ _ t148 _ _ y181 t184 _ ?side1 ?side2 ?side3 ?side4 A64.out).mono ?_); (case side1 => repeat (first | exact (Kd.R_reads' HO_11.out).2.2 | (with_reducible refine Kd.C_alloc ?_ _) | (with_reducible refine Kd.C_drewN ?_ _) | (with_reducible refine Kd.C_drew ?_))); (case side2 => exact (Kd.R_reads' HO_11.out).2.1); (case side3 => repeat (first | exact (Kd.R_reads' HO183.out).2.2 | (with_reducible refine Kd.C_alloc ?_ _) | (with_reducible refine Kd.C_drewN ?_ _) | (with_reducible refine Kd.C_drew ?_))); (case side4 => exact (Kd.R_reads' HO183.out).2.1); rintro e w73 ⟨rfl, hb⟩; have n0_ := Aside0.mk (Kd.R_below (by (with_reducible repeat (first | apply Kd.R_alloc | apply Kd.R_drewN | apply Kd.R_drew)); exact HO_1.out) hb); have n1_ := Aside0.mk (Kd.R_below (by (with_reducible repeat (first | apply Kd.R_alloc | apply Kd.R_drewN | apply Kd.R_drew)); exact HO_4.out) hb); have n2_ := Aside0.mk (Kd.R_below (by (with_reducible repeat (first | apply Kd.R_alloc | apply Kd.R_drewN | apply Kd.R_drew)); exact HO_8.out) hb); have n3_ := Aside0.mk (Kd.R_below (by (with_reducible repeat (first | apply Kd.R_alloc | apply Kd.R_drewN | apply Kd.R_drew)); exact HO_11.out) hb); have n4_ := Aside0.mk (Kd.R_below (by (with_reducible repeat (first | apply Kd.R_alloc | apply Kd.R_drewN | apply Kd.R_drew)); exact HO_17.out) hb); have n5_ := Aside0.mk (Kd.R_below (by (with_reducible repeat (first | apply Kd.R_alloc | apply Kd.R_drewN | apply Kd.R_drew)); exact HO183.out) hb); have n6_ := Aside0.mk (below_step (by repeat (first | (with_reducible first | exact HB.out | apply below_alloc | apply pw_below_drewN | apply below_drew1) | exact HB.out)) hb); clear HO_1; clear HO_4; clear HO_8; clear HO_11; clear HO_17; clear HO183; clear HB; have HO_1 := n0_; have HO_4 := n1_; have HO_8 := n2_; have HO_11 := n3_; have HO_17 := n4_; have HO183 := n5_; have HB := n6_; clear n0_ n1_ n2_ n3_ n4_ n5_ n6_; (try clear hb); (try clear hb2); (try clear hk); (try clear hi)))
                              go_ret
                              exact ⟨by first | rfl | (simp [errW_none, errW_some] <;> rfl) | (simp [*, errW_none, errW_some] <;> rfl), by repeat (first | (with_reducible first | exact HB.out | apply below_alloc | apply pw_below_drewN | apply below_drew1) | exact HB.out)⟩
                        · replace c50 := Bool.eq_false_iff.mpr c50
                          subst c50
                          have H1 : (some false) = some r := by rw [if_neg (show ¬ (false = true) by decide)] at H; exact H
                          clear H
                          have H := H1
                          clear H1
                          obtain rfl := Option.some.inj H
                          obtain ⟨Ao74, co74, eo74⟩ := Kd.R_slice HO_1.out
                          subst eo74
                          obtain ⟨Ao75, co75, eo75⟩ := Kd.R_slice HO_4.out
                          subst eo75
                          go_wp2_with (first | ((with_reducible refine gate_callee (f := 14) rfl ?_); refine goesL_ (some 130) rfl rfl Tryd.func14 (by kernel_rfl) rfl #[.slice Ao74 t130.length co74, .slice Ao75 y135.length co75] rfl (by (try simp only [List.map_toArray, List.map_cons, List.map_nil]); first | done | rfl | (simp only [List.length_drop, List.length_take]; rfl)) ?_; (with_reducible refine (testamurref09_Equal.calls kj9 _ _ t130 _ _ y135 true _ ?side1 ?side2 ?side3 ?side4 A40.out).mono ?_); (case side1 => repeat (first | exact (Kd.R_reads' HO_1.out).2.2 | (with_reducible refine Kd.C_alloc ?_ _) | (with_reducible refine Kd.C_drewN ?_ _) | (with_reducible refine Kd.C_drew ?_))); (case side2 => exact (Kd.R_reads' HO_1.out).2.1); (case side3 => repeat (first | exact (Kd.R_reads' HO_4.out).2.2 | (with_reducible refine Kd.C_alloc ?_ _) | (with_reducible refine Kd.C_drewN ?_ _) | (with_reducible refine Kd.C_drew ?_))); (case side4 => exact (Kd.R_reads' HO_4.out).2.1); rintro e w' ⟨rfl, ⟨nd, rfl⟩⟩; refine ⟨_, rfl, ?_⟩; obtain ⟨Ao76, co76, eo76⟩ := Kd.R_slice HO_8.out; subst eo76; have p176 : 0 ≤ (0 : Int) := (by omega); have q176 : 0 < (t143.length : Int) := of_decide_eq_true (by first | (with_reducible assumption) | assumption); obtain ⟨ad176, e176, hx176_0, hx176_1, hx176_2, hx176_3⟩ := at_T35 (Kd.R_reads' HO_8.out).2.2 0 p176 q176; cases e176; have qi176 : (0 < t143.length) = True := eq_true (by omega); (try rw [show ((0 : Int)).toNat = 0 from rfl] at hx176_0); (try rw [show 0 * 4 = 0 from rfl] at hx176_0); (try rw [Addr.add_zero'] at hx176_0); (try rw [show ((0 : Int)).toNat = 0 from rfl] at hx176_1); (try rw [show 0 * 4 = 0 from rfl] at hx176_1); (try rw [Addr.add_zero'] at hx176_1); (try rw [show ((0 : Int)).toNat = 0 from rfl] at hx176_2); (try rw [show 0 * 4 = 0 from rfl] at hx176_2); (try rw [Addr.add_zero'] at hx176_2); (try rw [show ((0 : Int)).toNat = 0 from rfl] at hx176_3); (try rw [show 0 * 4 = 0 from rfl] at hx176_3); (try rw [Addr.add_zero'] at hx176_3); replace p176 := eq_true p176; replace q176 := eq_true q176; obtain ⟨Ao77, co77, eo77⟩ := Kd.R_slice HO_11.out; subst eo77; have p177 : 0 ≤ (0 : Int) := (by omega); have q177 : 0 < (t148.length : Int) := of_decide_eq_true (by first | (with_reducible assumption) | assumption); obtain ⟨ad177, e177, hx177_0, hx177_1, hx177_2, hx177_3⟩ := at_T35 (Kd.R_reads' HO_11.out).2.2 0 p177 q177; cases e177; have qi177 : (0 < t148.length) = True := eq_true (by omega); (try rw [show ((0 : Int)).toNat = 0 from rfl] at hx177_0); (try rw [show 0 * 4 = 0 from rfl] at hx177_0); (try rw [Addr.add_zero'] at hx177_0); (try rw [show ((0 : Int)).toNat = 0 from rfl] at hx177_1); (try rw [show 0 * 4 = 0 from rfl] at hx177_1); (try rw [Addr.add_zero'] at hx177_1); (try rw [show ((0 : Int)).toNat = 0 from rfl] at hx177_2); (try rw [show 0 * 4 = 0 from rfl] at hx177_2); (try rw [Addr.add_zero'] at hx177_2); (try rw [show ((0 : Int)).toNat = 0 from rfl] at hx177_3); (try rw [show 0 * 4 = 0 from rfl] at hx177_3); (try rw [Addr.add_zero'] at hx177_3); replace p177 := eq_true p177; replace q177 := eq_true q177) | (go_at_call 20; (with_reducible refine (lex_Name.calls kj9 (⟨#[66, 95, 49, 50]⟩ : ByteArray) false _ A49.out).mono ?_); rintro e w' ⟨rfl, ⟨nd, rfl⟩⟩))
                          go_ret
                          exact ⟨by first | rfl | (simp [errW_none, errW_some] <;> rfl) | (simp [*, errW_none, errW_some] <;> rfl), by repeat (first | (with_reducible first | exact HB.out | apply below_alloc | apply pw_below_drewN | apply below_drew1) | exact HB.out)⟩
                      · rw [if_neg c48] at H
                        have c48b0 : (t163.toList == ([97, 32, 61, 32, 49] : List UInt8)) = false := beq_eq_false_iff_ne.mpr c48
                        have c48b1 : (t163.toList != ([97, 32, 61, 32, 49] : List UInt8)) = true := bne_iff_ne.mpr c48
                        obtain rfl := Option.some.inj H
                        obtain ⟨Ao78, co78, eo78⟩ := Kd.R_slice HO_1.out
                        subst eo78
                        obtain ⟨Ao79, co79, eo79⟩ := Kd.R_slice HO_4.out
                        subst eo79
                        go_wp2_with (first | ((with_reducible refine gate_callee (f := 14) rfl ?_); refine goesL_ (some 130) rfl rfl Tryd.func14 (by kernel_rfl) rfl #[.slice Ao78 t130.length co78, .slice Ao79 y135.length co79] rfl (by (try simp only [List.map_toArray, List.map_cons, List.map_nil]); first | done | rfl | (simp only [List.length_drop, List.length_take]; rfl)) ?_; (with_reducible refine (testamurref09_Equal.calls kj9 _ _ t130 _ _ y135 true _ ?side1 ?side2 ?side3 ?side4 A40.out).mono ?_); (case side1 => repeat (first | exact (Kd.R_reads' HO_1.out).2.2 | (with_reducible refine Kd.C_alloc ?_ _) | (with_reducible refine Kd.C_drewN ?_ _) | (with_reducible refine Kd.C_drew ?_))); (case side2 => exact (Kd.R_reads' HO_1.out).2.1); (case side3 => repeat (first | exact (Kd.R_reads' HO_4.out).2.2 | (with_reducible refine Kd.C_alloc ?_ _) | (with_reducible refine Kd.C_drewN ?_ _) | (with_reducible refine Kd.C_drew ?_))); (case side4 => exact (Kd.R_reads' HO_4.out).2.1); rintro e w' ⟨rfl, ⟨nd, rfl⟩⟩; refine ⟨_, rfl, ?_⟩; obtain ⟨Ao80, co80, eo80⟩ := Kd.R_slice HO_8.out; subst eo80; have p176 : 0 ≤ (0 : Int) := (by omega); have q176 : 0 < (t143.length : Int) := of_decide_eq_true (by first | (with_reducible assumption) | assumption); obtain ⟨ad176, e176, hx176_0, hx176_1, hx176_2, hx176_3⟩ := at_T35 (Kd.R_reads' HO_8.out).2.2 0 p176 q176; cases e176; have qi176 : (0 < t143.length) = True := eq_true (by omega); (try rw [show ((0 : Int)).toNat = 0 from rfl] at hx176_0); (try rw [show 0 * 4 = 0 from rfl] at hx176_0); (try rw [Addr.add_zero'] at hx176_0); (try rw [show ((0 : Int)).toNat = 0 from rfl] at hx176_1); (try rw [show 0 * 4 = 0 from rfl] at hx176_1); (try rw [Addr.add_zero'] at hx176_1); (try rw [show ((0 : Int)).toNat = 0 from rfl] at hx176_2); (try rw [show 0 * 4 = 0 from rfl] at hx176_2); (try rw [Addr.add_zero'] at hx176_2); (try rw [show ((0 : Int)).toNat = 0 from rfl] at hx176_3); (try rw [show 0 * 4 = 0 from rfl] at hx176_3); (try rw [Addr.add_zero'] at hx176_3); replace p176 := eq_true p176; replace q176 := eq_true q176; obtain ⟨Ao81, co81, eo81⟩ := Kd.R_slice HO_11.out; subst eo81; have p177 : 0 ≤ (0 : Int) := (by omega); have q177 : 0 < (t148.length : Int) := of_decide_eq_true (by first | (with_reducible assumption) | assumption); obtain ⟨ad177, e177, hx177_0, hx177_1, hx177_2, hx177_3⟩ := at_T35 (Kd.R_reads' HO_11.out).2.2 0 p177 q177; cases e177; have qi177 : (0 < t148.length) = True := eq_true (by omega); (try rw [show ((0 : Int)).toNat = 0 from rfl] at hx177_0); (try rw [show 0 * 4 = 0 from rfl] at hx177_0); (try rw [Addr.add_zero'] at hx177_0); (try rw [show ((0 : Int)).toNat = 0 from rfl] at hx177_1); (try rw [show 0 * 4 = 0 from rfl] at hx177_1); (try rw [Addr.add_zero'] at hx177_1); (try rw [show ((0 : Int)).toNat = 0 from rfl] at hx177_2); (try rw [show 0 * 4 = 0 from rfl] at hx177_2); (try rw [Addr.add_zero'] at hx177_2); (try rw [show ((0 : Int)).toNat = 0 from rfl] at hx177_3); (try rw [show 0 * 4 = 0 from rfl] at hx177_3); (try rw [Addr.add_zero'] at hx177_3); replace p177 := eq_true p177; replace q177 := eq_true q177))
                        go_ret
                        exact ⟨by first | rfl | (simp [errW_none, errW_some] <;> rfl) | (simp [*, errW_none, errW_some] <;> rfl), by repeat (first | (with_reducible first | exact HB.out | apply below_alloc | apply pw_below_drewN | apply below_drew1) | exact HB.out)⟩
                    · rw [if_neg c47] at H
                      have c47b0 : (((rd_T35 t148 0).f1).toList == ([97] : List UInt8)) = false := beq_eq_false_iff_ne.mpr c47
                      have c47b1 : (((rd_T35 t148 0).f1).toList != ([97] : List UInt8)) = true := bne_iff_ne.mpr c47
                      obtain rfl := Option.some.inj H
                      obtain ⟨Ao82, co82, eo82⟩ := Kd.R_slice HO_1.out
                      subst eo82
                      obtain ⟨Ao83, co83, eo83⟩ := Kd.R_slice HO_4.out
                      subst eo83
                      go_wp2_with (first | ((with_reducible refine gate_callee (f := 14) rfl ?_); refine goesL_ (some 130) rfl rfl Tryd.func14 (by kernel_rfl) rfl #[.slice Ao82 t130.length co82, .slice Ao83 y135.length co83] rfl (by (try simp only [List.map_toArray, List.map_cons, List.map_nil]); first | done | rfl | (simp only [List.length_drop, List.length_take]; rfl)) ?_; (with_reducible refine (testamurref09_Equal.calls kj9 _ _ t130 _ _ y135 true _ ?side1 ?side2 ?side3 ?side4 A40.out).mono ?_); (case side1 => repeat (first | exact (Kd.R_reads' HO_1.out).2.2 | (with_reducible refine Kd.C_alloc ?_ _) | (with_reducible refine Kd.C_drewN ?_ _) | (with_reducible refine Kd.C_drew ?_))); (case side2 => exact (Kd.R_reads' HO_1.out).2.1); (case side3 => repeat (first | exact (Kd.R_reads' HO_4.out).2.2 | (with_reducible refine Kd.C_alloc ?_ _) | (with_reducible refine Kd.C_drewN ?_ _) | (with_reducible refine Kd.C_drew ?_))); (case side4 => exact (Kd.R_reads' HO_4.out).2.1); rintro e w' ⟨rfl, ⟨nd, rfl⟩⟩; refine ⟨_, rfl, ?_⟩; obtain ⟨Ao84, co84, eo84⟩ := Kd.R_slice HO_8.out; subst eo84; have p176 : 0 ≤ (0 : Int) := (by omega); have q176 : 0 < (t143.length : Int) := of_decide_eq_true (by first | (with_reducible assumption) | assumption); obtain ⟨ad176, e176, hx176_0, hx176_1, hx176_2, hx176_3⟩ := at_T35 (Kd.R_reads' HO_8.out).2.2 0 p176 q176; cases e176; have qi176 : (0 < t143.length) = True := eq_true (by omega); (try rw [show ((0 : Int)).toNat = 0 from rfl] at hx176_0); (try rw [show 0 * 4 = 0 from rfl] at hx176_0); (try rw [Addr.add_zero'] at hx176_0); (try rw [show ((0 : Int)).toNat = 0 from rfl] at hx176_1); (try rw [show 0 * 4 = 0 from rfl] at hx176_1); (try rw [Addr.add_zero'] at hx176_1); (try rw [show ((0 : Int)).toNat = 0 from rfl] at hx176_2); (try rw [show 0 * 4 = 0 from rfl] at hx176_2); (try rw [Addr.add_zero'] at hx176_2); (try rw [show ((0 : Int)).toNat = 0 from rfl] at hx176_3); (try rw [show 0 * 4 = 0 from rfl] at hx176_3); (try rw [Addr.add_zero'] at hx176_3); replace p176 := eq_true p176; replace q176 := eq_true q176; obtain ⟨Ao85, co85, eo85⟩ := Kd.R_slice HO_11.out; subst eo85; have p177 : 0 ≤ (0 : Int) := (by omega); have q177 : 0 < (t148.length : Int) := of_decide_eq_true (by first | (with_reducible assumption) | assumption); obtain ⟨ad177, e177, hx177_0, hx177_1, hx177_2, hx177_3⟩ := at_T35 (Kd.R_reads' HO_11.out).2.2 0 p177 q177; cases e177; have qi177 : (0 < t148.length) = True := eq_true (by omega); (try rw [show ((0 : Int)).toNat = 0 from rfl] at hx177_0); (try rw [show 0 * 4 = 0 from rfl] at hx177_0); (try rw [Addr.add_zero'] at hx177_0); (try rw [show ((0 : Int)).toNat = 0 from rfl] at hx177_1); (try rw [show 0 * 4 = 0 from rfl] at hx177_1); (try rw [Addr.add_zero'] at hx177_1); (try rw [show ((0 : Int)).toNat = 0 from rfl] at hx177_2); (try rw [show 0 * 4 = 0 from rfl] at hx177_2); (try rw [Addr.add_zero'] at hx177_2); (try rw [show ((0 : Int)).toNat = 0 from rfl] at hx177_3); (try rw [show 0 * 4 = 0 from rfl] at hx177_3); (try rw [Addr.add_zero'] at hx177_3); replace p177 := eq_true p177; replace q177 := eq_true q177))
                      go_ret
                      exact ⟨by first | rfl | (simp [errW_none, errW_some] <;> rfl) | (simp [*, errW_none, errW_some] <;> rfl), by repeat (first | (with_reducible first | exact HB.out | apply below_alloc | apply pw_below_drewN | apply below_drew1) | exact HB.out)⟩
                  · rw [if_neg c46] at H
                    exact absurd H (by simp)
                · rw [if_neg c45] at H
                  have c45b0 : ((t148.length : Int) == 1) = false := beq_eq_false_iff_ne.mpr c45
                  have c45b1 : ((t148.length : Int) != 1) = true := bne_iff_ne.mpr c45
                  obtain rfl := Option.some.inj H
                  obtain ⟨Ao86, co86, eo86⟩ := Kd.R_slice HO_1.out
                  subst eo86
                  obtain ⟨Ao87, co87, eo87⟩ := Kd.R_slice HO_4.out
                  subst eo87
                  go_wp2_with (first | ((with_reducible refine gate_callee (f := 14) rfl ?_); refine goesL_ (some 130) rfl rfl Tryd.func14 (by kernel_rfl) rfl #[.slice Ao86 t130.length co86, .slice Ao87 y135.length co87] rfl (by (try simp only [List.map_toArray, List.map_cons, List.map_nil]); first | done | rfl | (simp only [List.length_drop, List.length_take]; rfl)) ?_; (with_reducible refine (testamurref09_Equal.calls kj9 _ _ t130 _ _ y135 true _ ?side1 ?side2 ?side3 ?side4 A40.out).mono ?_); (case side1 => repeat (first | exact (Kd.R_reads' HO_1.out).2.2 | (with_reducible refine Kd.C_alloc ?_ _) | (with_reducible refine Kd.C_drewN ?_ _) | (with_reducible refine Kd.C_drew ?_))); (case side2 => exact (Kd.R_reads' HO_1.out).2.1); (case side3 => repeat (first | exact (Kd.R_reads' HO_4.out).2.2 | (with_reducible refine Kd.C_alloc ?_ _) | (with_reducible refine Kd.C_drewN ?_ _) | (with_reducible refine Kd.C_drew ?_))); (case side4 => exact (Kd.R_reads' HO_4.out).2.1); rintro e w' ⟨rfl, ⟨nd, rfl⟩⟩; refine ⟨_, rfl, ?_⟩; obtain ⟨Ao88, co88, eo88⟩ := Kd.R_slice HO_8.out; subst eo88; have p176 : 0 ≤ (0 : Int) := (by omega); have q176 : 0 < (t143.length : Int) := of_decide_eq_true (by first | (with_reducible assumption) | assumption); obtain ⟨ad176, e176, hx176_0, hx176_1, hx176_2, hx176_3⟩ := at_T35 (Kd.R_reads' HO_8.out).2.2 0 p176 q176; cases e176; have qi176 : (0 < t143.length) = True := eq_true (by omega); (try rw [show ((0 : Int)).toNat = 0 from rfl] at hx176_0); (try rw [show 0 * 4 = 0 from rfl] at hx176_0); (try rw [Addr.add_zero'] at hx176_0); (try rw [show ((0 : Int)).toNat = 0 from rfl] at hx176_1); (try rw [show 0 * 4 = 0 from rfl] at hx176_1); (try rw [Addr.add_zero'] at hx176_1); (try rw [show ((0 : Int)).toNat = 0 from rfl] at hx176_2); (try rw [show 0 * 4 = 0 from rfl] at hx176_2); (try rw [Addr.add_zero'] at hx176_2); (try rw [show ((0 : Int)).toNat = 0 from rfl] at hx176_3); (try rw [show 0 * 4 = 0 from rfl] at hx176_3); (try rw [Addr.add_zero'] at hx176_3); replace p176 := eq_true p176; replace q176 := eq_true q176; obtain ⟨Ao89, co89, eo89⟩ := Kd.R_slice HO_11.out; subst eo89))
                  go_ret
                  exact ⟨by first | rfl | (simp [errW_none, errW_some] <;> rfl) | (simp [*, errW_none, errW_some] <;> rfl), by repeat (first | (with_reducible first | exact HB.out | apply below_alloc | apply pw_below_drewN | apply below_drew1) | exact HB.out)⟩
              · rw [if_neg c44] at H
                have c44b0 : (((rd_T35 t143 0).f2) == 1099511627776) = false := beq_eq_false_iff_ne.mpr c44
                have c44b1 : (((rd_T35 t143 0).f2) != 1099511627776) = true := bne_iff_ne.mpr c44
                obtain rfl := Option.some.inj H
                obtain ⟨Ao90, co90, eo90⟩ := Kd.R_slice HO_1.out
                subst eo90
                obtain ⟨Ao91, co91, eo91⟩ := Kd.R_slice HO_4.out
                subst eo91
                go_wp2_with (first | ((with_reducible refine gate_callee (f := 14) rfl ?_); refine goesL_ (some 130) rfl rfl Tryd.func14 (by kernel_rfl) rfl #[.slice Ao90 t130.length co90, .slice Ao91 y135.length co91] rfl (by (try simp only [List.map_toArray, List.map_cons, List.map_nil]); first | done | rfl | (simp only [List.length_drop, List.length_take]; rfl)) ?_; (with_reducible refine (testamurref09_Equal.calls kj9 _ _ t130 _ _ y135 true _ ?side1 ?side2 ?side3 ?side4 A40.out).mono ?_); (case side1 => repeat (first | exact (Kd.R_reads' HO_1.out).2.2 | (with_reducible refine Kd.C_alloc ?_ _) | (with_reducible refine Kd.C_drewN ?_ _) | (with_reducible refine Kd.C_drew ?_))); (case side2 => exact (Kd.R_reads' HO_1.out).2.1); (case side3 => repeat (first | exact (Kd.R_reads' HO_4.out).2.2 | (with_reducible refine Kd.C_alloc ?_ _) | (with_reducible refine Kd.C_drewN ?_ _) | (with_reducible refine Kd.C_drew ?_))); (case side4 => exact (Kd.R_reads' HO_4.out).2.1); rintro e w' ⟨rfl, ⟨nd, rfl⟩⟩; refine ⟨_, rfl, ?_⟩; obtain ⟨Ao92, co92, eo92⟩ := Kd.R_slice HO_8.out; subst eo92; have p176 : 0 ≤ (0 : Int) := (by omega); have q176 : 0 < (t143.length : Int) := of_decide_eq_true (by first | (with_reducible assumption) | assumption); obtain ⟨ad176, e176, hx176_0, hx176_1, hx176_2, hx176_3⟩ := at_T35 (Kd.R_reads' HO_8.out).2.2 0 p176 q176; cases e176; have qi176 : (0 < t143.length) = True := eq_true (by omega); (try rw [show ((0 : Int)).toNat = 0 from rfl] at hx176_0); (try rw [show 0 * 4 = 0 from rfl] at hx176_0); (try rw [Addr.add_zero'] at hx176_0); (try rw [show ((0 : Int)).toNat = 0 from rfl] at hx176_1); (try rw [show 0 * 4 = 0 from rfl] at hx176_1); (try rw [Addr.add_zero'] at hx176_1); (try rw [show ((0 : Int)).toNat = 0 from rfl] at hx176_2); (try rw [show 0 * 4 = 0 from rfl] at hx176_2); (try rw [Addr.add_zero'] at hx176_2); (try rw [show ((0 : Int)).toNat = 0 from rfl] at hx176_3); (try rw [show 0 * 4 = 0 from rfl] at hx176_3); (try rw [Addr.add_zero'] at hx176_3); replace p176 := eq_true p176; replace q176 := eq_true q176))
                go_ret
                exact ⟨by first | rfl | (simp [errW_none, errW_some] <;> rfl) | (simp [*, errW_none, errW_some] <;> rfl), by repeat (first | (with_reducible first | exact HB.out | apply below_alloc | apply pw_below_drewN | apply below_drew1) | exact HB.out)⟩
            · rw [if_neg c43] at H
              exact absurd H (by simp)
          · rw [if_neg c42] at H
            have c42b0 : ((t143.length : Int) == 1) = false := beq_eq_false_iff_ne.mpr c42
            have c42b1 : ((t143.length : Int) != 1) = true := bne_iff_ne.mpr c42
            obtain rfl := Option.some.inj H
            obtain ⟨Ao93, co93, eo93⟩ := Kd.R_slice HO_1.out
            subst eo93
            obtain ⟨Ao94, co94, eo94⟩ := Kd.R_slice HO_4.out
            subst eo94
            go_wp2_with (first | ((with_reducible refine gate_callee (f := 14) rfl ?_); refine goesL_ (some 130) rfl rfl Tryd.func14 (by kernel_rfl) rfl #[.slice Ao93 t130.length co93, .slice Ao94 y135.length co94] rfl (by (try simp only [List.map_toArray, List.map_cons, List.map_nil]); first | done | rfl | (simp only [List.length_drop, List.length_take]; rfl)) ?_; (with_reducible refine (testamurref09_Equal.calls kj9 _ _ t130 _ _ y135 true _ ?side1 ?side2 ?side3 ?side4 A40.out).mono ?_); (case side1 => repeat (first | exact (Kd.R_reads' HO_1.out).2.2 | (with_reducible refine Kd.C_alloc ?_ _) | (with_reducible refine Kd.C_drewN ?_ _) | (with_reducible refine Kd.C_drew ?_))); (case side2 => exact (Kd.R_reads' HO_1.out).2.1); (case side3 => repeat (first | exact (Kd.R_reads' HO_4.out).2.2 | (with_reducible refine Kd.C_alloc ?_ _) | (with_reducible refine Kd.C_drewN ?_ _) | (with_reducible refine Kd.C_drew ?_))); (case side4 => exact (Kd.R_reads' HO_4.out).2.1); rintro e w' ⟨rfl, ⟨nd, rfl⟩⟩; refine ⟨_, rfl, ?_⟩; obtain ⟨Ao95, co95, eo95⟩ := Kd.R_slice HO_8.out; subst eo95))
            go_ret
            exact ⟨by first | rfl | (simp [errW_none, errW_some] <;> rfl) | (simp [*, errW_none, errW_some] <;> rfl), by repeat (first | (with_reducible first | exact HB.out | apply below_alloc | apply pw_below_drewN | apply below_drew1) | exact HB.out)⟩
        · replace c41 := Bool.eq_false_iff.mpr c41
          subst c41
          have H1 : (some false) = some r := by rw [if_neg (show ¬ (false = true) by decide)] at H; exact H
          clear H
          have H := H1
          clear H1
          obtain rfl := Option.some.inj H
          obtain ⟨Ao96, co96, eo96⟩ := Kd.R_slice HO_1.out
          subst eo96
          obtain ⟨Ao97, co97, eo97⟩ := Kd.R_slice HO_4.out
          subst eo97
          go_wp2_with (first | ((with_reducible refine gate_callee (f := 14) rfl ?_); refine goesL_ (some 130) rfl rfl Tryd.func14 (by kernel_rfl) rfl #[.slice Ao96 t130.length co96, .slice Ao97 y135.length co97] rfl (by (try simp only [List.map_toArray, List.map_cons, List.map_nil]); first | done | rfl | (simp only [List.length_drop, List.length_take]; rfl)) ?_; (with_reducible refine (testamurref09_Equal.calls kj9 _ _ t130 _ _ y135 false _ ?side1 ?side2 ?side3 ?side4 A40.out).mono ?_); (case side1 => repeat (first | exact (Kd.R_reads' HO_1.out).2.2 | (with_reducible refine Kd.C_alloc ?_ _) | (with_reducible refine Kd.C_drewN ?_ _) | (with_reducible refine Kd.C_drew ?_))); (case side2 => exact (Kd.R_reads' HO_1.out).2.1); (case side3 => repeat (first | exact (Kd.R_reads' HO_4.out).2.2 | (with_reducible refine Kd.C_alloc ?_ _) | (with_reducible refine Kd.C_drewN ?_ _) | (with_reducible refine Kd.C_drew ?_))); (case side4 => exact (Kd.R_reads' HO_4.out).2.1); rintro e w' ⟨rfl, ⟨nd, rfl⟩⟩; refine ⟨_, rfl, ?_⟩))
          go_ret
          exact ⟨by first | rfl | (simp [errW_none, errW_some] <;> rfl) | (simp [*, errW_none, errW_some] <;> rfl), by repeat (first | (with_reducible first | exact HB.out | apply below_alloc | apply pw_below_drewN | apply below_drew1) | exact HB.out)⟩

/-! ### testamurref09_Letter: function 31 -/
def testamurref09_Letter.f (a0 : Int) : Option (Bool) := if a0 ≥ 97 then (if a0 ≤ 122 then (some true) else (if a0 ≥ 65 then (some (decide (a0 ≤ 90))) else (some false))) else (if a0 ≥ 65 then (some (decide (a0 ≤ 90))) else (some false))
set_option maxHeartbeats 8000000 in
set_option maxRecDepth 100000 in
theorem testamurref09_Letter.calls (a0 : Int) (r : Bool) (w : World) (h : testamurref09_Letter.f a0 = some r) :
    Calls Tryd.prog 31 #[.int .u8 a0] w fun e w' => e = .returned (.bool r) ∧ Drawn0 w w' := by
  have H : (if a0 ≥ 97 then (if a0 ≤ 122 then (some true) else (if a0 ≥ 65 then (some (decide (a0 ≤ 90))) else (some false))) else (if a0 ≥ 65 then (some (decide (a0 ≤ 90))) else (some false))) = some r := h
  clear h
  by_cases c2 : a0 ≥ 97
  · rw [if_pos c2] at H
    have c2b0 : decide (97 ≤ a0) = true := decide_eq_true c2
    clear c2
    by_cases c3 : a0 ≤ 122
    · rw [if_pos c3] at H
      have c3b0 : decide (a0 ≤ 122) = true := decide_eq_true c3
      clear c3
      obtain rfl := Option.some.inj H
      go_enter Tryd.func31, Tryd.ntmps31
      go_wp2
      go_ret
      exact ⟨by first | rfl | (simp; done) | (simp [*]; done), by repeat (first | exact Drawn0.refl _ | apply Drawn0.step)⟩
    · rw [if_neg c3] at H
      have c3b0 : decide (a0 ≤ 122) = false := decide_eq_false c3
      clear c3
      by_cases c4 : a0 ≥ 65
      · rw [if_pos c4] at H
        have c4b0 : decide (65 ≤ a0) = true := decide_eq_true c4
        clear c4
        obtain rfl := Option.some.inj H
        go_enter Tryd.func31, Tryd.ntmps31
        go_wp2
        go_ret
        exact ⟨by first | rfl | (simp; done) | (simp [*]; done), by repeat (first | exact Drawn0.refl _ | apply Drawn0.step)⟩
      · rw [if_neg c4] at H
        have c4b0 : decide (65 ≤ a0) = false := decide_eq_false c4
        clear c4
        obtain rfl := Option.some.inj H
        go_enter Tryd.func31, Tryd.ntmps31
        go_wp2
        go_ret
        exact ⟨by first | rfl | (simp; done) | (simp [*]; done), by repeat (first | exact Drawn0.refl _ | apply Drawn0.step)⟩
  · rw [if_neg c2] at H
    have c2b0 : decide (97 ≤ a0) = false := decide_eq_false c2
    clear c2
    by_cases c5 : a0 ≥ 65
    · rw [if_pos c5] at H
      have c5b0 : decide (65 ≤ a0) = true := decide_eq_true c5
      clear c5
      obtain rfl := Option.some.inj H
      go_enter Tryd.func31, Tryd.ntmps31
      go_wp2
      go_ret
      exact ⟨by first | rfl | (simp; done) | (simp [*]; done), by repeat (first | exact Drawn0.refl _ | apply Drawn0.step)⟩
    · rw [if_neg c5] at H
      have c5b0 : decide (65 ≤ a0) = false := decide_eq_false c5
      clear c5
      obtain rfl := Option.some.inj H
      go_enter Tryd.func31, Tryd.ntmps31
      go_wp2
      go_ret
      exact ⟨by first | rfl | (simp; done) | (simp [*]; done), by repeat (first | exact Drawn0.refl _ | apply Drawn0.step)⟩

/-! ### testamurref09_Figure: function 33 -/
def testamurref09_Figure.f (a0 : Int) : Option (Bool) := if a0 ≥ 48 then (some (decide (a0 ≤ 57))) else (some false)
set_option maxHeartbeats 8000000 in
set_option maxRecDepth 100000 in
theorem testamurref09_Figure.calls (a0 : Int) (r : Bool) (w : World) (h : testamurref09_Figure.f a0 = some r) :
    Calls Tryd.prog 33 #[.int .u8 a0] w fun e w' => e = .returned (.bool r) ∧ Drawn0 w w' := by
  have H : (if a0 ≥ 48 then (some (decide (a0 ≤ 57))) else (some false)) = some r := h
  clear h
  by_cases c2 : a0 ≥ 48
  · rw [if_pos c2] at H
    have c2b0 : decide (48 ≤ a0) = true := decide_eq_true c2
    clear c2
    obtain rfl := Option.some.inj H
    go_enter Tryd.func33, Tryd.ntmps33
    go_wp2
    go_ret
    exact ⟨by first | rfl | (simp; done) | (simp [*]; done), by repeat (first | exact Drawn0.refl _ | apply Drawn0.step)⟩
  · rw [if_neg c2] at H
    have c2b0 : decide (48 ≤ a0) = false := decide_eq_false c2
    clear c2
    obtain rfl := Option.some.inj H
    go_enter Tryd.func33, Tryd.ntmps33
    go_wp2
    go_ret
    exact ⟨by first | rfl | (simp; done) | (simp [*]; done), by repeat (first | exact Drawn0.refl _ | apply Drawn0.step)⟩

/-! ### testamurref09_part: function 32 -/
def testamurref09_part.f (a0 : Int) : Option (Bool) := (testamurref09_Letter.f a0).bind fun t185 => (if t185 = true then (some true) else ((testamurref09_Figure.f a0).bind fun t186 => (if t186 = true then (some true) else (some (a0 == 95)))))
set_option maxHeartbeats 8000000 in
set_option maxRecDepth 100000 in
theorem testamurref09_part.calls (a0 : Int) (r : Bool) (w : World) (h : testamurref09_part.f a0 = some r) :
    Calls Tryd.prog 32 #[.int .u8 a0] w fun e w' => e = .returned (.bool r) ∧ Drawn0 w w' := by
  have H : ((testamurref09_Letter.f a0).bind fun t185 => (if t185 = true then (some true) else ((testamurref09_Figure.f a0).bind fun t186 => (if t186 = true then (some true) else (some (a0 == 95)))))) = some r := h
  clear h
  replace H := Option.bind_eq_some_iff.mp H
  obtain ⟨t185, A20, H⟩ := H
  replace H : (if t185 = true then (some true) else ((testamurref09_Figure.f a0).bind fun t186 => (if t186 = true then (some true) else (some (a0 == 95))))) = some r := H
  have A2 := Aside0.mk A20
  clear A20
  by_cases c3 : t185 = true
  · subst c3
    have H1 : (some true) = some r := by rw [if_pos rfl] at H; exact H
    clear H
    have H := H1
    clear H1
    obtain rfl := Option.some.inj H
    go_enter Tryd.func32, Tryd.ntmps32
    go_wp2_with (first | ((with_reducible refine gate_callee (f := 31) rfl ?_); refine goesL_ (some 4) rfl rfl Tryd.func31 (by kernel_rfl) rfl #[.int .u8 a0] rfl (by (try simp only [List.map_toArray, List.map_cons, List.map_nil]); first | done | rfl | (simp only [List.length_drop, List.length_take]; rfl)) ?_; (with_reducible refine (testamurref09_Letter.calls a0 true _ A2.out).mono ?_); rintro e w' ⟨rfl, ⟨nd, rfl⟩⟩; refine ⟨_, rfl, ?_⟩))
    go_ret
    exact ⟨by first | rfl | (simp; done) | (simp [*]; done), by repeat (first | exact Drawn0.refl _ | apply Drawn0.step)⟩
  · replace c3 := Bool.eq_false_iff.mpr c3
    subst c3
    have H1 : ((testamurref09_Figure.f a0).bind fun t186 => (if t186 = true then (some true) else (some (a0 == 95)))) = some r := by rw [if_neg (show ¬ (false = true) by decide)] at H; exact H
    clear H
    have H := H1
    clear H1
    replace H := Option.bind_eq_some_iff.mp H
    obtain ⟨t186, A40, H⟩ := H
    replace H : (if t186 = true then (some true) else (some (a0 == 95))) = some r := H
    have A4 := Aside0.mk A40
    clear A40
    by_cases c5 : t186 = true
    · subst c5
      have H1 : (some true) = some r := by rw [if_pos rfl] at H; exact H
      clear H
      have H := H1
      clear H1
      obtain rfl := Option.some.inj H
      go_enter Tryd.func32, Tryd.ntmps32
      go_wp2_with (first | ((with_reducible refine gate_callee (f := 31) rfl ?_); refine goesL_ (some 4) rfl rfl Tryd.func31 (by kernel_rfl) rfl #[.int .u8 a0] rfl (by (try simp only [List.map_toArray, List.map_cons, List.map_nil]); first | done | rfl | (simp only [List.length_drop, List.length_take]; rfl)) ?_; (with_reducible refine (testamurref09_Letter.calls a0 false _ A2.out).mono ?_); rintro e w' ⟨rfl, ⟨nd, rfl⟩⟩; refine ⟨_, rfl, ?_⟩) | (go_at_call 33; (with_reducible refine (testamurref09_Figure.calls a0 true _ A4.out).mono ?_); rintro e w' ⟨rfl, ⟨nd, rfl⟩⟩))
      go_ret
      exact ⟨by first | rfl | (simp; done) | (simp [*]; done), by repeat (first | exact Drawn0.refl _ | apply Drawn0.step)⟩
    · replace c5 := Bool.eq_false_iff.mpr c5
      subst c5
      have H1 : (some (a0 == 95)) = some r := by rw [if_neg (show ¬ (false = true) by decide)] at H; exact H
      clear H
      have H := H1
      clear H1
      obtain rfl := Option.some.inj H
      go_enter Tryd.func32, Tryd.ntmps32
      go_wp2_with (first | ((with_reducible refine gate_callee (f := 31) rfl ?_); refine goesL_ (some 4) rfl rfl Tryd.func31 (by kernel_rfl) rfl #[.int .u8 a0] rfl (by (try simp only [List.map_toArray, List.map_cons, List.map_nil]); first | done | rfl | (simp only [List.length_drop, List.length_take]; rfl)) ?_; (with_reducible refine (testamurref09_Letter.calls a0 false _ A2.out).mono ?_); rintro e w' ⟨rfl, ⟨nd, rfl⟩⟩; refine ⟨_, rfl, ?_⟩) | (go_at_call 33; (with_reducible refine (testamurref09_Figure.calls a0 false _ A4.out).mono ?_); rintro e w' ⟨rfl, ⟨nd, rfl⟩⟩))
      go_ret
      exact ⟨by first | rfl | (simp; done) | (simp [*]; done), by repeat (first | exact Drawn0.refl _ | apply Drawn0.step)⟩

end Go.Proofs.YtpgjacoinldfhaaDoor.Q
