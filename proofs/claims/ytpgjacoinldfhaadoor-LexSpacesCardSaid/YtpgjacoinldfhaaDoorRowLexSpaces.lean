/- The row of the law LexSpaces, out of what its pure function answers. Written by a program of the session; Lean checks it. -/
import Derived.Test.YtpgjacoinldfhaaDoorKinds
import Derived.Test.YtpgjacoinldfhaaDoorQ15
import Derived.Test.YtpgjacoinldfhaaDoorTie
import Derived.Test.YtpgjacoinldfhaaDoorCards
import Derived.SevenTiedAt
namespace Go.Proofs.YtpgjacoinldfhaaDoor.LexSpacesRow
open Go Go.ChangeShapes Go.WideShapes Go.ChangeAt Go.RowKit Go.Proofs.YtpgjacoinldfhaaDoor.Q Go.Proofs.YtpgjacoinldfhaaDoor.Opens Go.Proofs.YtpgjacoinldfhaaDoor.Kinds Go.Proofs.YtpgjacoinldfhaaDoorW.PrintWords Go.Proofs.YtpgjacoinldfhaaDoorW.PrintLast
set_option linter.unusedVariables false
/-- What the pure function answers for every input. -/
def Pure : Prop := ∀ (l0 : List S35) (l1 : List Int) (a2 : ByteArray), l0.length * Tryd.prog.bytesOf 35 ≤ reachBytes ∧ (∀ a ∈ l0, Ok35 a) → l1.length * Tryd.prog.bytesOf 5 ≤ reachBytes ∧ (∀ a ∈ l1, (Lit.int .u8 a).wf = true) → a2.size ≤ reachBytes → ∃ k, testamurlaw09_LexSpaces.f k l0 l1 a2 = some true
set_option maxRecDepth 100000 in
theorem lifted (P : Pure) (os : Os) (started : os.Started) (H : Type) (enc : TypeId × Value → H) :
    ReturnsInHanded {} Tryd.checked os 8 .any (fun w args => (Rows.lexSpacesSpec.pre enc Tryd.prog Tryd.f8 [] false w args ∧ laidMetH Tryd.prog laid5 w) ∧ sizedMet enc Tryd.prog Tryd.f8 (OpenSpec.ofChange Rows.lexSpacesSpec) false w args)
      (Rows.lexSpacesSpec.post enc Tryd.prog Tryd.f8 false true false false) := by
  refine returnsInHanded_of_change_and (C := Tryd.checked) (X := fun w _ => laidMetH Tryd.prog laid5 w) (fun _ _ _ hh h => h.of_heap hh) own started (by kernel_rfl) Tryd.func8
    (ChangeSpec.witness_shaped (enc := enc) (C := Tryd.checked) (os := os) (X := fun w _ => laidMetH Tryd.prog laid5 w) false (World.doorLaid Tryd.prog 62 os) #[.slice none 0 0, .slice none 0 0, .string ByteArray.empty] 8 rfl (World.shaped_of_RefB (by kernel_rfl) (by kernel_rfl)) (by kernel_rfl) (by kernel_rfl) (by kernel_rfl) (door_met os _)) ?_
  intro W base args ds gs before hval0 hW _ hsz0 hL0 _
  have hsz : (DataW.weightsEach Tryd.prog (Tryd.f8.params.toList ++ Rows.lexSpacesSpec.plain.varTypes Tryd.prog) (ds ++ gs)).all (· ≤ reachBytes) = true := hsz0
  have hval : ∀ (j : Nat) t v, Tryd.f8.params[j]? = some t → args[j]? = some v → Value.okWide Tryd.prog W .any base t v := hval0
  have hW' := hW
  obtain ⟨p, q, hA0, hV, rfl, hfz, hnd⟩ := hW
  have hA : DataW.TrodAll enc Tryd.prog W 0 (fun _ => true) true Tryd.f8.params.toList args.toList ds p := hA0
  rw [Tryd.params8] at hA hval hsz
  obtain ⟨v0, vs0, d0, ds0, p0, q0, hargs, rfl, rfl, h0, r0⟩ := trodAll_cons hA
  obtain ⟨v1, vs1, d1, ds1, p1, q1, rfl, rfl, rfl, h1, r1⟩ := trodAll_cons r0
  obtain ⟨v2, vs2, d2, ds2, p2, q2, rfl, rfl, rfl, h2, r2⟩ := trodAll_cons r1
  obtain ⟨rfl, rfl, rfl⟩ := trodAll_nil r2
  obtain rfl : args = #[v0, v1, v2] := by cases args; simp_all
  obtain ⟨rfl, rfl⟩ := trodVars_none hV
  have k0 := h0
  have lt0 : ∀ x ∈ p0, x.block < W.heap.size := by obtain ⟨m, hm⟩ := k0; exact DataW.trod_lt m _ _ _ hm
  obtain ⟨A0, c0, l0, rfl, hc0, hr0, b0⟩ := arg_slice o23 Tryd.underlying23 (j := 0) hsz rfl rfl h0 (hval 0 23 v0 rfl rfl)
  have k1 := h1
  have lt1 : ∀ x ∈ p1, x.block < W.heap.size := by obtain ⟨m, hm⟩ := k1; exact DataW.trod_lt m _ _ _ hm
  obtain ⟨A1, c1, l1, rfl, hc1, hr1, b1⟩ := arg_slice o39 Tryd.underlying39 (j := 1) hsz rfl rfl h1 (hval 1 39 v1 rfl rfl)
  have k2 := h2
  have lt2 : ∀ x ∈ p2, x.block < W.heap.size := by obtain ⟨m, hm⟩ := k2; exact DataW.trod_lt m _ _ _ hm
  obtain ⟨a2, rfl, b2⟩ := arg_string (j := 2) hsz rfl rfl h2 (hval 2 9 v2 rfl rfl)
  obtain ⟨k, hk⟩ := P l0 l1 a2 b0 b1 b2
  refine (testamurlaw09_LexSpaces.calls k A0 c0 l0 A1 c1 l1 a2 true W (laid_of hL0) hr0 hc0 hr1 hc1 hk).mono fun e W' ⟨he, bel⟩ => ?_
  subst he
  exact ⟨_, rfl, _, _, _, [], _, [], hW', trodAll_mk1 (shut_bool Tryd.underlying4 _), (trodAll_cons_mk (Below.trod laidOut (by kernel_rfl) (of_decide_eq_true (by kernel_rfl)) k0 bel lt0) (trodAll_cons_mk (Below.trod laidOut (by kernel_rfl) (of_decide_eq_true (by kernel_rfl)) k1 bel lt1) (trodAll_cons_mk (Below.trod laidOut (by kernel_rfl) (of_decide_eq_true (by kernel_rfl)) k2 bel lt2) trodAll_mk0))), rfl, bel.frame _, fun h => by cases h⟩
theorem over (P : Pure) : Rows.lexSpacesRow.holds Tryd.pinned (OpenSpec.ofChange Rows.lexSpacesSpec) :=
  OpenClaim.holds_of_wide 8 Tryd.f8 rfl rfl rfl rfl rfl rfl rfl ⟨rfl, rfl, rfl, rfl, rfl⟩ rfl rfl rfl rfl rfl (by kernel_rfl) Tryd.func8 (by kernel_rfl)
    (of_decide_eq_true (by kernel_rfl)) (by unfold Func.isWrapper; first | (rw [if_pos (by decide +kernel)]; kernel_rfl) | (rw [if_neg (by decide +kernel)]; exact ⟨rfl, rfl⟩))
    (fun os started H enc _ => lifted P os started H enc)
/-- The tied card, out of the pure law. -/
theorem card (P : Pure) : Rows.LexSpacesCardSaid :=
  Claim7.holds_tied_plain_at .later [] Rows.lexSpacesCard.laidKinds true Rows.lexSpacesCard.stood.harness true (over P) (fun _ h => by cases h) (by kernel_rfl) (fun _ h => by cases h) lexSpaces_row_tie rfl ⟨rfl, rfl⟩ (by kernel_rfl) rfl
    (fun f fn hf hfn => by
      obtain rfl : f = 8 := Option.some.inj ((show Tryd.prog.funcNamed Rows.lexSpacesRow.func = some 8 by kernel_rfl).symm.trans hf) |>.symm
      obtain rfl : fn = Tryd.f8 := (Option.some.inj (Tryd.func8.symm.trans hfn)).symm
      exact ⟨by kernel_rfl, fun j t ht => by
        rw [Tryd.params8] at ht
        have ht' := ht; clear ht
        rcases j with _ | j
        · have : t = 23 := by simpa using ht'.symm
          subst this
          exact (show Tryd.prog.wantsStandIn 23 = false by kernel_rfl)
        rcases j with _ | j
        · have : t = 39 := by simpa using ht'.symm
          subst this
          exact (show Tryd.prog.wantsStandIn 39 = false by kernel_rfl)
        rcases j with _ | j
        · have : t = 9 := by simpa using ht'.symm
          subst this
          exact (show Tryd.prog.wantsStandIn 9 = false by kernel_rfl)
        · simp at ht'⟩)
    (by kernel_rfl)
end Go.Proofs.YtpgjacoinldfhaaDoor.LexSpacesRow
