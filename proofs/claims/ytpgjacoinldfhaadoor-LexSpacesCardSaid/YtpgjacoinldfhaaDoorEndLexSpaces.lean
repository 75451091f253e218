/- The law LexSpaces: tokens written with any white space and comments between them are scanned as themselves. -/
import Derived.Test.YtpgjacoinldfhaaDoorRowLexSpaces
import Derived.Test.YtpgjacoinldfhaaDoorPlainB
namespace Go.Proofs.YtpgjacoinldfhaaDoor.Pl
open Go Go.Lib Go.RowKit Go.Proofs.YtpgjacoinldfhaaDoor.Q Go.Proofs.YtpgjacoinldfhaaDoor.Kinds Go.Proofs.YtpgjacoinldfhaaDoorW.PrintWords Go.Proofs.YtpgjacoinldfhaaDoorW.PrintLast
theorem bytes_tok : Tryd.prog.bytesOf 35 = 40 := by kernel_rfl
theorem few_of {l : List S35} (h : l.length * Tryd.prog.bytesOf 35 ≤ reachBytes ∧ (∀ a ∈ l, Ok35 a)) : ∃ b, Ev (fun k => testamurref09_Few.f k l) b ∧ (b = true → l.length ≤ 200 ∧ sizes l ≤ 2000) := by
  obtain ⟨h1, h2⟩ := h
  rw [bytes_tok] at h1
  have hr : reachBytes = 140737488351232 := by decide
  exact reffew_is l (by omega) (fun x hx => by have := (h2 x hx).2.1; omega)
theorem cls9 : clsB 9 = 1 := by decide
theorem cls13 : clsB 13 = 1 := by decide
/-- A comment and its line feed. -/
theorem scan_note (w : List UInt8) (hw : ∀ c ∈ w, c ≠ 10) (y : List UInt8) (q : Nat) : scan (47 :: 47 :: (w ++ 10 :: y)) q = scan y (q + (w.length + 3)) := by
  have htw : (47 :: (w ++ 10 :: y)).takeWhile (fun b => b != 10) = 47 :: w := by
    rw [takeWhile_cons_true (by rfl), tw_stop (by rfl), tw_all (fun c hc => bne_iff_ne.2 (hw c hc))]
  have hp : piece (47 :: 47 :: (w ++ 10 :: y)) = some (.note, 1 + (w.length + 1)) := by
    simp only [piece]
    rw [if_neg (by decide), if_neg (by decide), if_neg (by decide), if_pos (by decide), if_pos (by simp), htw, List.length_cons]
  rw [scan_some hp]
  show scan ((47 :: 47 :: (w ++ 10 :: y)).drop _) _ = _
  rw [show 1 + (w.length + 1) = w.length + 1 + 1 by omega, List.drop_succ_cons, List.drop_succ_cons, List.drop_left, scan_sp cls10]
  congr 1
/-- A gap is passed over. -/
def Gap (g : List UInt8) : Prop := g.length ≤ 103 ∧ ∀ (y : List UInt8) (q : Nat), scan (g ++ y) q = scan y (q + g.length)
theorem gap1 : Gap [32] := ⟨by decide, fun y q => by rw [List.singleton_append, scan_sp cls32]; rfl⟩
theorem gap2 : Gap [9] := ⟨by decide, fun y q => by rw [List.singleton_append, scan_sp cls9]; rfl⟩
theorem gap3 : Gap [10] := ⟨by decide, fun y q => by rw [List.singleton_append, scan_sp cls10]; rfl⟩
theorem gap4 : Gap [13, 10] := ⟨by decide, fun y q => by rw [List.cons_append, List.singleton_append, scan_sp cls13, scan_sp cls10]; rfl⟩
theorem gap5 : Gap [32, 32] := ⟨by decide, fun y q => by rw [List.cons_append, List.singleton_append, scan_sp cls32, scan_sp cls32]; rfl⟩
theorem gap6 (w : List UInt8) (hw : ∀ c ∈ w, c ≠ 10) (hl : w.length ≤ 100) : Gap (47 :: 47 :: (w ++ [10])) := by
  have hlen : (47 :: 47 :: (w ++ [10]) : List UInt8).length = w.length + 3 := by simp
  refine ⟨by rw [hlen]; omega, fun y q => ?_⟩
  rw [hlen, show (47 :: 47 :: (w ++ [10]) ++ y : List UInt8) = 47 :: 47 :: (w ++ 10 :: y) by simp]
  exact scan_note w hw y q
theorem gap7 : Gap [32, 47, 47, 32, 10] := ⟨by decide, fun y q => by
  rw [show ([32, 47, 47, 32, 10] ++ y : List UInt8) = 32 :: 47 :: 47 :: ([32] ++ 10 :: y) by simp, scan_sp cls32, scan_note [32] (by decide)]
  rfl⟩
theorem gap8 : Gap [10, 47, 47, 10] := ⟨by decide, fun y q => by
  rw [show ([10, 47, 47, 10] ++ y : List UInt8) = 10 :: 47 :: 47 :: ([] ++ 10 :: y) by simp, scan_sp cls10, scan_note [] (by decide)]
  rfl⟩
theorem sameB_snoc : ∀ (a b : List S35) (x y : S35), sameB a b = true → same1 x y = true → sameB (a ++ [x]) (b ++ [y]) = true
  | [], [], x, y, _, h => by show (same1 x y && true) = true; rw [h]; rfl
  | [], b :: vs, x, y, h, _ => by cases h
  | a :: us, [], x, y, h, _ => by cases h
  | a :: us, b :: vs, x, y, h, h2 => by
    have h' : (same1 a b && sameB us vs) = true := h
    rw [Bool.and_eq_true] at h'
    show (same1 a b && sameB (us ++ [x]) (vs ++ [y])) = true
    rw [h'.1, sameB_snoc us vs x y h'.2 h2]
    rfl
/-- What is written so far is scanned as these tokens, whatever comes behind. -/
def Sofar (s : ByteArray) (l : List S35) : Prop := ∃ ts, sameB l ts = true ∧ ∀ y, scan (s.data.toList ++ y) 0 = app (ts, none) (scan y s.size)
theorem app_app (a b : List S35) (s : List S35 × Option Nat) : app (a, none) (app (b, none) s) = app (a ++ b, none) s := by
  show (a ++ (b ++ s.1), s.2) = (a ++ b ++ s.1, s.2)
  rw [List.append_assoc]
theorem sofar_step {s : ByteArray} {l : List S35} (h : Sofar s l) (x : S35) (hx : validB x = true) (g : List UInt8) (hg : Gap g) (s' : ByteArray) (hs' : s'.data.toList = s.data.toList ++ (wordL x ++ 32 :: g)) : Sofar s' (l ++ [x]) := by
  obtain ⟨ts, h1, h2⟩ := h
  refine ⟨ts ++ [⟨x.f0, x.f1, x.f2, (s.size : Int)⟩], sameB_snoc _ _ _ _ h1 (decide_eq_true ⟨rfl, rfl, rfl⟩), fun y => ?_⟩
  have hlen : s'.size = s.size + (wordL x).length + 1 + g.length := by
    rw [← data_length s', hs', List.length_append, data_length, List.length_append, List.length_cons]
    omega
  rw [hs', show s.data.toList ++ (wordL x ++ 32 :: g) ++ y = s.data.toList ++ (wordL x ++ 32 :: (g ++ y)) by simp, h2,
    scan_word hx _ (fun b hb => by have e : (32 : UInt8) = b := Option.some.inj hb; subst e; exact cls32), scan_sp cls32, hg.2, hlen, ← app_app]
  rfl
theorem text_one (x : S35) : ((textF [x]).2 = 0 ∧ validB x = true ∧ (textF [x]).1 = wordB x) ∨ (¬ (textF [x]).2 = 0 ∧ validB x = false) := by
  unfold textF
  have e : [x].all validB = validB x := by rw [List.all_cons, List.all_nil, Bool.and_true]
  cases hv : validB x with
  | true =>
    rw [if_pos (by rw [e, hv])]
    refine .inl ⟨rfl, rfl, ?_⟩
    rw [List.map_cons, List.map_nil, join_one]
    apply bytes_eq
    rfl
  | false =>
    rw [if_neg (by rw [e, hv]; simp)]
    exact .inr ⟨by show ¬ (90 : Int) = 0; decide, rfl⟩
theorem text_bad {l : List S35} {x : S35} (hx : x ∈ l) (hv : validB x = false) : (textF l).2 = 90 := by
  unfold textF
  rw [if_neg]
  intro h
  rw [List.all_eq_true.1 h x hx] at hv
  cases hv
theorem spaces_loop (x0 : List S35) (x1 : List Int) (hl : x0.length ≤ 200) (h1 : ∀ a ∈ x1, 0 ≤ a ∧ a ≤ 255) (gs : List ByteArray) (h8 : gs.length = 8) (hg : ∀ g ∈ gs, Gap g.data.toList) (m : Nat) : ∀ (i : Nat) (s : ByteArray),
    x0.length - i = m → i ≤ x0.length → Sofar s (x0.take i) → s.size ≤ 1 + 136 * i →
    Ev (fun k => testamurlaw09_LexSpaces.l1 k x0 x1 gs s x0 (x0.length : Int) (i : Int)) true := by
  induction m with
  | zero =>
    intro i s h2 h3 hs hz
    rw [List.take_of_length_le (by omega)] at hs
    obtain ⟨ts, q1, q2⟩ := hs
    have q3 := q2 []
    rw [List.append_nil, scan_nil] at q3
    refine Ev.step (fun k => by rw [testamurlaw09_LexSpaces.l1]) ?_
    refine Ev.congr (fun k => if_neg (by omega)) ?_
    simp only [lex_Lex.f, Option.bind_some]
    rw [lexF_scan s (by omega), q3]
    refine Ev.congr (fun k => if_pos rfl) ?_
    refine Ev.congr (fun k => if_pos rfl) ?_
    simp only [lex_Same.f, Option.bind_some]
    have e : (fin [] (app (ts, none) ([], none))).1 = ts := by show [] ++ (ts ++ []) = ts; simp
    rw [e, q1]
    exact Ev.now _
  | succ m ih =>
    intro i s h2 h3 hs hz
    have hx := drop_get x0 i (by omega)
    obtain ⟨ex, _, _⟩ := rd_drop x0 i _ _ hx
    have htk : x0.take (i + 1) = x0.take i ++ [x0[i]'(by omega)] := List.take_succ_eq_append_getElem (by omega)
    have hmem : x0[i]'(by omega) ∈ x0 := List.getElem_mem _
    have hih := ih (i + 1)
    rw [htk] at hih
    generalize x0[i]'(by omega) = x at *
    refine Ev.step (fun k => by rw [testamurlaw09_LexSpaces.l1]) ?_
    refine Ev.congr (fun k => if_pos (by omega)) ?_
    refine Ev.congr (fun k => if_pos (by omega)) ?_
    refine Ev.congr (fun k => if_pos (by omega)) ?_
    rw [ex]
    refine Ev.bind (lextext_is [x] (show 1 ≤ 1000000 by decide)) ?_
    have h32 : ((⟨#[32]⟩ : ByteArray)).size = 1 := rfl
    rcases text_one x with ⟨t1, hv, t2⟩ | ⟨t1, hv⟩
    · refine Ev.congr (fun k => if_pos t1) ?_
      rw [t2, wrap_nat i (by omega)]
      have hw := word_len hv
      -- one gap, whatever it is
      have go : ∀ g : ByteArray, Gap g.data.toList → Ev (fun k => if (wordB x).size + 1 ≤ 9223372036854775807 then (if (wordB x ++ (⟨#[32]⟩ : ByteArray)).size + g.size ≤ 9223372036854775807 then (if s.size + (wordB x ++ (⟨#[32]⟩ : ByteArray) ++ g).size ≤ 9223372036854775807 then testamurlaw09_LexSpaces.l1 k x0 x1 gs (s ++ (wordB x ++ (⟨#[32]⟩ : ByteArray) ++ g)) x0 (x0.length : Int) ((i + 1 : Nat) : Int) else none) else none) else none) true := by
        intro g hgap
        have hgl := hgap.1
        rw [data_length] at hgl
        refine Ev.congr (fun k => if_pos (by omega)) ?_
        refine Ev.congr (fun k => if_pos (by rw [ByteArray.size_append, h32]; omega)) ?_
        refine Ev.congr (fun k => if_pos (by rw [ByteArray.size_append, ByteArray.size_append, h32]; omega)) ?_
        refine hih _ (by omega) (by omega) (sofar_step hs x hv g.data.toList hgap _ ?_) ?_
        · simp [ByteArray.data_append, wordL]
        · rw [ByteArray.size_append, ByteArray.size_append, ByteArray.size_append, h32]
          omega
      by_cases ht : (i : Int) < (x1.length : Int)
      · refine Ev.congr (fun k => if_pos ht) ?_
        refine Ev.congr (fun k => if_neg (by omega)) ?_
        have hm : rd x1 (i : Int) ∈ x1 := by
          unfold rd
          rw [Int.toNat_natCast, List.getD_eq_getElem?_getD, List.getElem?_eq_getElem (by omega)]
          exact List.getElem_mem _
        have hb := h1 _ hm
        rw [Q.wrap_small (i := rd x1 (i : Int)) (by omega) (by omega), h8, Int.tmod_eq_emod_of_nonneg hb.1]
        have hj0 : 0 ≤ rd x1 (i : Int) % ((8 : Nat) : Int) := Int.emod_nonneg _ (by decide)
        have hj8 : rd x1 (i : Int) % ((8 : Nat) : Int) < ((8 : Nat) : Int) := Int.emod_lt_of_pos _ (by decide)
        refine Ev.congr (fun k => if_pos hj0) ?_
        refine Ev.congr (fun k => if_pos hj8) ?_
        refine go _ (hg _ ?_)
        unfold rdOf
        rw [List.getD_eq_getElem?_getD, List.getElem?_eq_getElem (by omega)]
        exact List.getElem_mem _
      · refine Ev.congr (fun k => if_neg ht) ?_
        exact go (⟨#[32]⟩ : ByteArray) gap1
    · refine Ev.congr (fun k => if_neg t1) ?_
      refine Ev.bind (lextext_is x0 (by omega)) ?_
      rw [text_bad hmem hv]
      exact Ev.now _
theorem words_loop (x0 : List S35) (x1 : List Int) (x2 : ByteArray) (h2 : x2.size ≤ 100) (hend : ∀ w : ByteArray, w.size ≤ 100 → (∀ c ∈ w.data.toList, c ≠ 10) →
      Ev (fun k => testamurlaw09_LexSpaces.l1 k x0 x1 [⟨#[32]⟩, ⟨#[9]⟩, ⟨#[10]⟩, ⟨#[13, 10]⟩, ⟨#[32, 32]⟩, ((⟨#[47, 47]⟩ : ByteArray) ++ w) ++ (⟨#[10]⟩ : ByteArray), ⟨#[32, 47, 47, 32, 10]⟩, ⟨#[10, 47, 47, 10]⟩] ⟨#[10]⟩ x0 (x0.length : Int) 0) true)
    (l : List UInt8) : ∀ (i : Nat) (w : ByteArray), i ≤ x2.size → x2.data.toList.drop i = l → w.size ≤ i → (∀ c ∈ w.data.toList, c ≠ 10) → Ev (fun k => testamurlaw09_LexSpaces.l0 k x0 x1 x2 w (i : Int)) true := by
  induction l with
  | nil =>
    intro i w hi hd hw hc
    have := at_end x2 i hi hd
    refine Ev.step (fun k => by rw [testamurlaw09_LexSpaces.l0]) ?_
    refine Ev.congr (fun k => if_neg (by omega)) ?_
    refine Ev.congr (fun k => if_pos (by omega)) ?_
    have hsz : ((⟨#[47, 47]⟩ : ByteArray) ++ w).size = 2 + w.size := by rw [ByteArray.size_append]; rfl
    refine Ev.congr (fun k => if_pos (by omega)) ?_
    exact hend w (by omega) hc
  | cons c r ih =>
    intro i w hi hd hw hc
    obtain ⟨hb, hlt, hd'⟩ := bt_list x2 i c r hd
    have hx : (x2.extract i (i + 1)).data.toList = [c] := by rw [extract_list, hd]; rfl
    have hxs : (x2.extract i (i + 1)).size = 1 := by rw [← data_length, hx]; rfl
    refine Ev.step (f := fun k => if (c.toNat : Int) = 10 then testamurlaw09_LexSpaces.l0 k x0 x1 x2 w ((i + 1 : Nat) : Int) else testamurlaw09_LexSpaces.l0 k x0 x1 x2 (w ++ x2.extract i (i + 1)) ((i + 1 : Nat) : Int)) (fun k => ?_) ?_
    · simp only [testamurlaw09_LexSpaces.l0]
      rw [if_pos (by omega), if_pos (by omega), hb, wrap_nat i (by omega), Int.toNat_natCast, Int.toNat_natCast]
      by_cases h10 : (c.toNat : Int) = 10
      · rw [if_pos h10, if_pos h10]
      · rw [if_neg h10, if_neg h10, if_pos (by omega), if_pos (by omega), if_pos (by rw [hxs]; omega)]
    · by_cases h10 : (c.toNat : Int) = 10
      · exact Ev.congr (fun k => if_pos h10) (ih (i + 1) w (by omega) hd' (by omega) hc)
      · refine Ev.congr (fun k => if_neg h10) (ih (i + 1) _ (by omega) hd' (by rw [ByteArray.size_append, hxs]; omega) ?_)
        intro a ha
        rw [ByteArray.data_append, Array.toList_append, hx] at ha
        rcases List.mem_append.1 ha with ha | ha
        · exact hc a ha
        · rw [List.mem_singleton.1 ha]
          intro e
          subst e
          exact h10 rfl
theorem lexSpaces_pure : LexSpacesRow.Pure := fun l0 l1 a2 h0 h1 _ => by
  refine Ev.rounds (g := fun k => testamurlaw09_LexSpaces.f k l0 l1 a2) ?_
  obtain ⟨b0, e0, f0⟩ := few_of h0
  unfold testamurlaw09_LexSpaces.f
  refine Ev.bind sane_is ?_
  refine Ev.congr (fun k => if_pos rfl) ?_
  have hout : Ev (fun k => testamurlaw09_LexSpaces.j0 k l0 l1 a2 true) true := Ev.step (f := fun _ => some true) (fun k => by simp only [testamurlaw09_LexSpaces.j0, if_true]) (Ev.now _)
  refine Ev.bind e0 ?_
  cases b0 with
  | false => exact Ev.congr (fun k => if_neg (by simp)) hout
  | true =>
    refine Ev.congr (fun k => if_pos rfl) ?_
    obtain ⟨g0, g1⟩ := f0 rfl
    by_cases hz : (a2.size : Int) > 100
    · rw [decide_eq_true hz]
      exact hout
    · rw [decide_eq_false hz]
      refine Ev.step (fun k => by rw [testamurlaw09_LexSpaces.j0]) ?_
      refine Ev.congr (fun k => if_neg (by simp)) ?_
      refine words_loop l0 l1 a2 (by omega) (fun w hw hc => ?_) _ 0 ⟨#[]⟩ (by omega) rfl (Nat.le_refl _) (by simp)
      refine spaces_loop l0 l1 g0 (fun a ha => ?_) _ rfl (fun g hg => ?_) _ 0 ⟨#[10]⟩ rfl (by omega) ?_ (by decide)
      · have := h1.2 a ha
        simpa [Lit.wf, IntKind.min, IntKind.max, IntKind.signed, IntKind.bits] using this
      · simp only [List.mem_cons, List.not_mem_nil, or_false] at hg
        rcases hg with rfl | rfl | rfl | rfl | rfl | rfl | rfl | rfl
        · exact gap1
        · exact gap2
        · exact gap3
        · exact gap4
        · exact gap5
        · have e : ((⟨#[47, 47]⟩ : ByteArray) ++ w ++ (⟨#[10]⟩ : ByteArray)).data.toList = 47 :: 47 :: (w.data.toList ++ [10]) := by simp [ByteArray.data_append]
          rw [e]
          exact gap6 _ hc (by rw [data_length]; exact hw)
        · exact gap7
        · exact gap8
      · refine ⟨[], rfl, fun y => ?_⟩
        show scan (10 :: y) 0 = _
        rw [scan_sp cls10]
        rfl
theorem lexSpaces_done : Rows.LexSpacesCardSaid := LexSpacesRow.card lexSpaces_pure
#print axioms lexSpaces_done
end Go.Proofs.YtpgjacoinldfhaaDoor.Pl
