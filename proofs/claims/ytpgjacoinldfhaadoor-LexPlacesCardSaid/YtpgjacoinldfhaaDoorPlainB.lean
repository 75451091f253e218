/- How the scanner's answers are put together: sources one after the other, a prefix, places moved, texts of tokens scanned again. -/
import Derived.Test.YtpgjacoinldfhaaDoorPlain
namespace Go.Proofs.YtpgjacoinldfhaaDoor.Pl
open Go Go.Lib Go.RowKit Go.Proofs.YtpgjacoinldfhaaDoor.Q Go.Proofs.YtpgjacoinldfhaaDoorW.PrintWords Go.Proofs.YtpgjacoinldfhaaDoorW.PrintLast
set_option linter.unusedVariables false
theorem tw_stop {q : UInt8 → Bool} {b : UInt8} {y : List UInt8} (h : q b = false) (l : List UInt8) : (l ++ b :: y).takeWhile q = l.takeWhile q := by
  induction l with
  | nil => rw [List.nil_append, takeWhile_cons_false h]; rfl
  | cons a l ih => rw [List.cons_append, List.takeWhile_cons, List.takeWhile_cons, ih]
theorem tw_inside {q : UInt8 → Bool} (y l : List UInt8) (h : (l.takeWhile q).length < l.length) : (l ++ y).takeWhile q = l.takeWhile q := by
  induction l with
  | nil => simp at h
  | cons a l ih =>
    rw [List.cons_append, List.takeWhile_cons, List.takeWhile_cons]
    by_cases ha : q a = true
    · rw [if_pos ha, if_pos ha, ih (by rw [takeWhile_cons_true ha] at h; simpa using h)]
    · rw [if_neg ha, if_neg ha]
theorem tw_all {q : UInt8 → Bool} {l : List UInt8} (h : ∀ c ∈ l, q c = true) : l.takeWhile q = l := by
  induction l with
  | nil => rfl
  | cons a l ih => rw [takeWhile_cons_true (h a (by simp)), ih (fun c hc => h c (by simp [hc]))]
theorem tw_mem {q : UInt8 → Bool} {l : List UInt8} : ∀ c ∈ l.takeWhile q, q c = true := List.all_eq_true.1 List.all_takeWhile
theorem tw_next {q : UInt8 → Bool} (l : List UInt8) {b : UInt8} (h : (l.drop (l.takeWhile q).length).head? = some b) : q b = false := by
  induction l with
  | nil => simp at h
  | cons a l ih =>
    by_cases ha : q a = true
    · rw [takeWhile_cons_true ha, List.length_cons, List.drop_succ_cons] at h
      exact ih h
    · have hf : q a = false := by simpa using ha
      rw [takeWhile_cons_false hf] at h
      have e : a = b := by simpa using h
      rw [← e]
      exact hf
theorem tw_take {q : UInt8 → Bool} (r y : List UInt8) (hy : ∀ b, y.head? = some b → (r.drop (r.takeWhile q).length).head? = some b) : (r.take (r.takeWhile q).length ++ y).takeWhile q = r.takeWhile q := by
  rw [take_takeWhile]
  cases y with
  | nil => rw [List.append_nil]; exact tw_all tw_mem
  | cons b y => rw [tw_stop (tw_next r (hy b rfl))]; exact tw_all tw_mem
theorem white_facts {b : UInt8} (h : clsB b = 1) : partB b = false ∧ digB b = false ∧ b ≠ 47 := by
  have e : clsN (b.toNat : Int) = 1 := h
  refine ⟨by unfold partB; rw [e]; rfl, by unfold digB; rw [h]; rfl, ?_⟩
  intro e
  subst e
  exact absurd h (by decide)
theorem piece_take {l : List UInt8} {x : Pc} {m : Nat} (h : piece l = some (x, m)) (y : List UInt8) (hy : ∀ b, y.head? = some b → (l.drop m).head? = some b) : piece (l.take m ++ y) = some (x, m) := by
  cases l with
  | nil => cases h
  | cons c r =>
    have ht : ∀ n, (c :: r).take (1 + n) = c :: r.take n := fun n => by rw [Nat.add_comm 1, List.take_succ_cons]
    have hd : ∀ n, (c :: r).drop (1 + n) = r.drop n := fun n => by rw [Nat.add_comm 1, List.drop_succ_cons]
    simp only [piece] at h
    by_cases h1 : clsB c = 1
    · rw [if_pos h1] at h
      injection h with h
      injection h with hx hm
      subst hx
      subst hm
      show piece (c :: ([] ++ y)) = _
      simp only [piece]
      rw [if_pos h1]
    · rw [if_neg h1] at h
      by_cases h2 : clsB c = 2
      · rw [if_pos h2] at h
        by_cases hn : nameL (c :: r.takeWhile partB) = true
        · rw [if_pos hn] at h
          injection h with h
          injection h with hx hm
          subst hx
          subst hm
          rw [hd] at hy
          rw [ht, List.cons_append]
          simp only [piece]
          rw [if_neg h1, if_pos h2, tw_take r y hy, if_pos hn]
        · rw [if_neg hn] at h
          cases h
      · rw [if_neg h2] at h
        by_cases h3 : clsB c = 3
        · rw [if_pos h3] at h
          cases hv : numL (c :: r.takeWhile digB) with
          | none => rw [hv] at h; cases h
          | some v =>
            rw [hv] at h
            injection h with h
            injection h with hx hm
            subst hx
            subst hm
            rw [hd] at hy
            rw [ht, List.cons_append]
            simp only [piece]
            rw [if_neg h1, if_neg h2, if_pos h3, tw_take r y hy, hv]
        · rw [if_neg h3] at h
          by_cases h4 : clsB c = 4
          · rw [if_pos h4] at h
            by_cases hcm : c = 47 ∧ r.head? = some 47
            · rw [if_pos hcm] at h
              injection h with h
              injection h with hx hm
              subst hx
              subst hm
              rw [hd] at hy
              rw [ht, List.cons_append]
              simp only [piece]
              have hh : (r.take (r.takeWhile (fun b => b != 10)).length ++ y).head? = some 47 := by
                rw [take_takeWhile]
                obtain ⟨_, hr⟩ := hcm
                cases r with
                | nil => cases hr
                | cons a r =>
                  have e : a = 47 := by simpa using hr
                  subst e
                  rw [takeWhile_cons_true (by rfl)]
                  rfl
              rw [if_neg h1, if_neg h2, if_neg h3, if_pos h4, if_pos ⟨hcm.1, hh⟩, tw_take r y hy]
            · rw [if_neg hcm] at h
              injection h with h
              injection h with hx hm
              subst hx
              subst hm
              show piece (c :: ([] ++ y)) = _
              simp only [piece]
              rw [if_neg h1, if_neg h2, if_neg h3, if_pos h4, if_neg (fun hh => hcm ⟨hh.1, hy 47 hh.2⟩)]
          · rw [if_neg h4] at h
            cases h
theorem piece_app {l : List UInt8} {x : Pc} {m : Nat} (h : piece l = some (x, m)) (b : UInt8) (y : List UInt8) (hb : clsB b = 1) (hn : b = 10 ∨ x ≠ Pc.note ∨ m < l.length) : piece (l ++ b :: y) = some (x, m) := by
  obtain ⟨hp, hdg, h47⟩ := white_facts hb
  cases l with
  | nil => cases h
  | cons c r =>
    rw [List.cons_append]
    simp only [piece] at h ⊢
    by_cases h1 : clsB c = 1
    · rw [if_pos h1] at h ⊢
      exact h
    · rw [if_neg h1] at h ⊢
      by_cases h2 : clsB c = 2
      · rw [if_pos h2] at h ⊢
        rw [tw_stop hp]
        exact h
      · rw [if_neg h2] at h ⊢
        by_cases h3 : clsB c = 3
        · rw [if_pos h3] at h ⊢
          rw [tw_stop hdg]
          exact h
        · rw [if_neg h3] at h ⊢
          by_cases h4 : clsB c = 4
          · rw [if_pos h4] at h ⊢
            by_cases hcm : c = 47 ∧ r.head? = some 47
            · rw [if_pos hcm] at h
              have hh : (r ++ b :: y).head? = some 47 := by
                obtain ⟨_, hr⟩ := hcm
                cases r with
                | nil => cases hr
                | cons a r => exact hr
              rw [if_pos ⟨hcm.1, hh⟩]
              injection h with h
              injection h with hx hm
              subst hx
              subst hm
              by_cases h10 : b = 10
              · subst h10
                rw [tw_stop (by rfl)]
              · rcases hn with hn | hn | hn
                · exact absurd hn h10
                · exact absurd rfl hn
                · rw [tw_inside _ _ (by simp only [List.length_cons] at hn; omega)]
            · rw [if_neg hcm] at h
              rw [if_neg]
              · exact h
              · rintro ⟨q1, q2⟩
                cases r with
                | nil => exact h47 (by simpa using q2)
                | cons a r => exact hcm ⟨q1, q2⟩
          · rw [if_neg h4] at h
            cases h
theorem piece_none_app {c : UInt8} {r : List UInt8} (h : piece (c :: r) = none) (b : UInt8) (y : List UInt8) (hb : clsB b = 1) : piece (c :: (r ++ b :: y)) = none := by
  obtain ⟨hp, hdg, h47⟩ := white_facts hb
  simp only [piece] at h ⊢
  by_cases h1 : clsB c = 1
  · rw [if_pos h1] at h
    cases h
  · rw [if_neg h1] at h ⊢
    by_cases h2 : clsB c = 2
    · rw [if_pos h2] at h ⊢
      rw [tw_stop hp]
      exact h
    · rw [if_neg h2] at h ⊢
      by_cases h3 : clsB c = 3
      · rw [if_pos h3] at h ⊢
        rw [tw_stop hdg]
        exact h
      · rw [if_neg h3] at h ⊢
        by_cases h4 : clsB c = 4
        · rw [if_pos h4] at h
          split at h <;> cases h
        · rw [if_neg h4]
/-- One answer, then the other. -/
def app (r s : List S35 × Option Nat) : List S35 × Option Nat :=
  match r.2 with
  | some e => (r.1, some e)
  | none => (r.1 ++ s.1, s.2)
theorem app_put (x : Pc) (p : Nat) (r s : List S35 × Option Nat) : app (put x p r) s = put x p (app r s) := by
  obtain ⟨a, b⟩ := r
  cases x with
  | sp => rfl
  | note => rfl
  | tok k t n =>
    cases b with
    | none => rfl
    | some e => rfl
theorem cls10 : clsB 10 = 1 := by decide
theorem cls32 : clsB 32 = 1 := by decide
theorem scan_sp {b : UInt8} (h : clsB b = 1) (y : List UInt8) (p : Nat) : scan (b :: y) p = scan y (p + 1) := by
  have hp : piece (b :: y) = some (.sp, 1) := by simp only [piece]; rw [if_pos h]
  rw [scan_some hp]
  rfl
/-- Two sources with a line feed between them. -/
theorem scan_app (l y : List UInt8) (p : Nat) : scan (l ++ 10 :: y) p = app (scan l p) (scan y (p + l.length + 1)) := by
  refine scan_ind (M := fun l p => scan (l ++ 10 :: y) p = app (scan l p) (scan y (p + l.length + 1))) (fun p => ?_) (fun c r p h => ?_) (fun l x m p h h1 h2 ih => ?_) l p
  · rw [List.nil_append, scan_sp cls10, scan_nil]
    rfl
  · rw [scan_none h, List.cons_append, scan_none (piece_none_app h 10 y cls10)]
    rfl
  · rw [scan_some h, scan_some (piece_app h 10 y cls10 (.inl rfl)), List.drop_append_of_le_length h2, ih, app_put]
    congr 3
    rw [List.length_drop]
    omega
theorem put_err (x : Pc) (p : Nat) (r : List S35 × Option Nat) : (put x p r).2 = r.2 := by
  cases x <;> rfl
/-- An error remains. -/
theorem scan_err_app (l y : List UInt8) (p e : Nat) (he : (scan l p).2 = some e) : (scan (l ++ 32 :: y) p).2 = some e := by
  refine scan_ind (M := fun l p => (scan l p).2 = some e → (scan (l ++ 32 :: y) p).2 = some e) (fun p h => ?_) (fun c r p h he => ?_) (fun l x m p h h1 h2 ih he => ?_) l p he
  · rw [scan_nil] at h; cases h
  · rw [scan_none h] at he
    rw [List.cons_append, scan_none (piece_none_app h 32 y cls32)]
    exact he
  · rw [scan_some h, put_err] at he
    have hm : m < l.length := by
      rcases Nat.lt_or_ge m l.length with h' | h'
      · exact h'
      · rw [List.drop_eq_nil_of_le h', scan_nil] at he
        cases he
    rw [scan_some (piece_app h 32 y cls32 (.inr (.inr hm))), put_err, List.drop_append_of_le_length h2]
    exact ih he
/-- What stands before an error, and what begins at it. -/
theorem scan_take (l : List UInt8) (p e : Nat) (he : (scan l p).2 = some e) : p ≤ e ∧ e < p + l.length ∧ (scan (l.take (e - p)) p).2 = none ∧ ∀ q, (scan (l.drop (e - p)) q).2 = some q := by
  refine scan_ind (M := fun l p => (scan l p).2 = some e → p ≤ e ∧ e < p + l.length ∧ (scan (l.take (e - p)) p).2 = none ∧ ∀ q, (scan (l.drop (e - p)) q).2 = some q) (fun p h => ?_) (fun c r p h he => ?_) (fun l x m p h h1 h2 ih he => ?_) l p he
  · rw [scan_nil] at h; cases h
  · rw [scan_none h] at he
    have e1 : p = e := Option.some.inj he
    subst e1
    rw [Nat.sub_self]
    refine ⟨Nat.le_refl _, by rw [List.length_cons]; omega, rfl, fun q => ?_⟩
    show (scan (c :: r) q).2 = _
    rw [scan_none h]
  · rw [scan_some h, put_err] at he
    obtain ⟨a1, a2, a3, a4⟩ := ih he
    rw [List.length_drop] at a2
    refine ⟨by omega, by omega, ?_, ?_⟩
    · have et : l.take (e - p) = l.take m ++ (l.drop m).take (e - (p + m)) := by
        rw [← List.take_add]
        congr 1
        omega
      rw [et, scan_some (piece_take h _ (fun b hb => ?_)), put_err]
      · rw [List.drop_append_of_le_length (by rw [List.length_take]; omega), List.drop_eq_nil_of_le (by rw [List.length_take]; omega), List.nil_append]
        exact a3
      · cases hd : l.drop m with
        | nil => rw [hd] at hb; simp at hb
        | cons c r =>
          rw [hd] at hb
          cases hk : e - (p + m) with
          | zero => rw [hk] at hb; simp at hb
          | succ n => rw [hk] at hb; simpa using hb
    · intro q
      have ed : l.drop (e - p) = (l.drop m).drop (e - (p + m)) := by
        rw [List.drop_drop]
        congr 1
        omega
      rw [ed]
      exact a4 q
def shift (q : Nat) (x : S35) : S35 := ⟨x.f0, x.f1, x.f2, x.f3 + (q : Int)⟩
/-- The same source at another place. -/
theorem scan_shift (l : List UInt8) (p q : Nat) : scan l (p + q) = ((scan l p).1.map (shift q), (scan l p).2.map (· + q)) := by
  refine scan_ind (M := fun l p => scan l (p + q) = ((scan l p).1.map (shift q), (scan l p).2.map (· + q))) (fun p => rfl) (fun c r p h => ?_) (fun l x m p h h1 h2 ih => ?_) l p
  · rw [scan_none h, scan_none h]
    rfl
  · rw [scan_some h, scan_some h, show p + q + m = p + m + q by omega, ih]
    cases x with
    | sp => rfl
    | note => rfl
    | tok k t n =>
      show (_ :: _, _) = (_ :: _, _)
      congr 2
theorem name_facts {c : UInt8} {w : List UInt8} (h : nameL (c :: w) = true) : clsB c = 2 ∧ ∀ a ∈ w, partB a = true := by
  unfold nameL at h
  rw [Bool.and_eq_true, Bool.and_eq_true] at h
  refine ⟨by simpa [clsB] using h.1.2, fun a ha => ?_⟩
  have := List.all_eq_true.1 h.2 a (by simp [ha])
  exact this
theorem dig_dig {c : UInt8} (h : dig c = true) : digB c = true := by
  have hc := of_decide_eq_true h
  have all : ∀ v : Fin 256, 48 ≤ v.val ∧ v.val ≤ 57 → clsN (v.val : Int) = 3 := by decide +kernel
  have := all ⟨c.toNat, c.toNat_lt⟩ hc
  unfold digB clsB
  rw [this]
  rfl
/-- Behind a text stands nothing, or white space. -/
def Sepd (y : List UInt8) : Prop := ∀ b, y.head? = some b → clsB b = 1
theorem tw_sepd {q : UInt8 → Bool} (hq : ∀ b, clsB b = 1 → q b = false) {w y : List UInt8} (hw : ∀ a ∈ w, q a = true) (hy : Sepd y) : (w ++ y).takeWhile q = w := by
  cases y with
  | nil => rw [List.append_nil]; exact tw_all hw
  | cons b y => rw [tw_stop (hq b (hy b rfl))]; exact tw_all hw
/-- The text of a valid token, scanned. -/
theorem scan_word {x : S35} (h : validB x = true) (y : List UInt8) (hy : Sepd y) (p : Nat) : scan (wordL x ++ y) p = con ⟨x.f0, x.f1, x.f2, (p : Int)⟩ (scan y (p + (wordL x).length)) := by
  rcases valid_cases h with ⟨h1, h2, h3⟩ | ⟨h1, h2, h3, h4⟩ | ⟨h1, h2, h3, h4⟩
  · have hw : wordL x = x.f1.data.toList := by unfold wordL wordB; rw [if_neg (by omega)]
    rw [hw]
    have hne : x.f1.data.toList ≠ [] := by intro e; rw [e] at h2; cases h2
    obtain ⟨c, w, hcw⟩ := List.exists_cons_of_ne_nil hne
    rw [hcw] at h2 ⊢
    obtain ⟨hc, hall⟩ := name_facts h2
    have hp : piece (c :: w ++ y) = some (.tok 1 (c :: w) 0, 1 + w.length) := by
      rw [List.cons_append]
      simp only [piece]
      rw [if_neg (by rw [hc]; decide), if_pos hc, tw_sepd (fun b hb => (white_facts hb).1) hall hy, if_pos h2]
    rw [scan_some hp, h1, h3, List.length_cons, Nat.add_comm w.length 1]
    have e : x.f1 = ⟨(c :: w).toArray⟩ := bytes_eq (by rw [hcw])
    rw [e, Nat.add_comm 1 w.length, List.cons_append, List.drop_succ_cons, List.drop_left]
    rfl
  · have hw : wordL x = decDigits x.f2.toNat := by unfold wordL wordB; rw [if_pos h1]
    rw [hw]
    obtain ⟨u, hu⟩ : ∃ u : Nat, x.f2 = (u : Int) := ⟨x.f2.toNat, by omega⟩
    rw [hu, Int.toNat_natCast]
    have hall := dec_all u
    have hcan := dec_canon u
    have hval := val_dec u
    obtain ⟨c, w, hcw⟩ := List.exists_cons_of_ne_nil (dec_ne u)
    rw [hcw] at hall hcan hval ⊢
    have hd : ∀ a ∈ c :: w, digB a = true := fun a ha => dig_dig (List.all_eq_true.1 hall a ha)
    have hc : clsB c = 3 := by have := hd c (by simp); simpa [digB] using this
    have hn : numL (c :: w) = some (u : Int) := by
      unfold numL
      rw [if_pos ⟨hcan, by rw [hval]; omega⟩, hval]
    have hp : piece (c :: w ++ y) = some (.tok 2 [] (u : Int), 1 + w.length) := by
      rw [List.cons_append]
      simp only [piece]
      rw [if_neg (by rw [hc]; decide), if_neg (by rw [hc]; decide), if_pos hc, tw_sepd (fun b hb => (white_facts hb).2.1) (fun a ha => hd a (by simp [ha])) hy, hn]
    rw [scan_some hp, h1, h2, List.length_cons, Nat.add_comm 1 w.length, List.cons_append, List.drop_succ_cons, List.drop_left]
    rfl
  · have hw : wordL x = x.f1.data.toList := by unfold wordL wordB; rw [if_neg (by omega)]
    rw [hw]
    obtain ⟨c, hc⟩ : ∃ c, x.f1.data.toList = [c] := List.length_eq_one_iff.1 (by rw [data_length, h2])
    rw [hc] at h3 ⊢
    have hcl : clsB c = 4 := by simpa using h3
    have hp : piece ([c] ++ y) = some (.tok 3 [c] 0, 1) := by
      show piece (c :: y) = _
      simp only [piece]
      rw [if_neg (by rw [hcl]; decide), if_neg (by rw [hcl]; decide), if_neg (by rw [hcl]; decide), if_pos hcl, if_neg]
      rintro ⟨_, q⟩
      exact (white_facts (hy 47 q)).2.2 rfl
    have e : x.f1 = ⟨[c].toArray⟩ := bytes_eq (by rw [hc])
    rw [scan_some hp, h1, h4, e]
    rfl
/-- All tokens of a source are valid. -/
theorem scan_valid (l : List UInt8) (p : Nat) : ∀ x ∈ (scan l p).1, validB x = true := by
  refine scan_ind (M := fun l p => ∀ x ∈ (scan l p).1, validB x = true) (fun p x hx => by rw [scan_nil] at hx; cases hx) (fun c r p h x hx => by rw [scan_none h] at hx; cases hx) (fun l x m p h h1 h2 ih => ?_) l p
  rw [scan_some h]
  cases x with
  | sp => exact ih
  | note => exact ih
  | tok k t n =>
    intro z hz
    rcases List.mem_cons.1 hz with rfl | hz
    · cases l with
      | nil => cases h
      | cons c r =>
        simp only [piece] at h
        by_cases h1 : clsB c = 1
        · rw [if_pos h1] at h; injection h with h; injection h with h; cases h
        · rw [if_neg h1] at h
          by_cases h2 : clsB c = 2
          · rw [if_pos h2] at h
            by_cases hn : nameL (c :: r.takeWhile partB) = true
            · rw [if_pos hn] at h
              injection h with h
              injection h with h _
              injection h with q1 q2 q3
              subst q1
              subst q2
              subst q3
              show (if (1 : Int) = 1 then nameL (c :: r.takeWhile partB) && ((0 : Int) == 0) else _) = true
              rw [if_pos rfl, hn]
              rfl
            · rw [if_neg hn] at h; cases h
          · rw [if_neg h2] at h
            by_cases h3 : clsB c = 3
            · rw [if_pos h3] at h
              cases hv : numL (c :: r.takeWhile digB) with
              | none => rw [hv] at h; cases h
              | some v =>
                rw [hv] at h
                injection h with h
                injection h with h _
                injection h with q1 q2 q3
                subst q1
                subst q2
                subst q3
                unfold numL at hv
                split at hv
                · rename_i hcv
                  injection hv with hv
                  subst hv
                  unfold validB
                  rw [if_neg (show ¬ ((2 : Int) = 1) by decide), if_pos (show (2 : Int) = 2 from rfl)]
                  refine decide_eq_true ⟨rfl, ?_, ?_⟩
                  · show (0 : Int) ≤ (dval 0 (c :: r.takeWhile digB) : Int)
                    omega
                  · show (dval 0 (c :: r.takeWhile digB) : Int) ≤ 1099511627776
                    have := hcv.2
                    omega
                · cases hv
            · rw [if_neg h3] at h
              by_cases h4 : clsB c = 4
              · rw [if_pos h4] at h
                by_cases hcm : c = 47 ∧ r.head? = some 47
                · rw [if_pos hcm] at h; injection h with h; injection h with h; cases h
                · rw [if_neg hcm] at h
                  injection h with h
                  injection h with h _
                  injection h with q1 q2 q3
                  subst q1
                  subst q2
                  subst q3
                  have hq : (clsB c == 4) = true := by rw [h4]; rfl
                  show (if (3 : Int) = 1 then _ else if (3 : Int) = 2 then _ else if (3 : Int) = 3 then decide ((⟨[c].toArray⟩ : ByteArray).size = 1) && ([c].all fun a => clsB a == 4) && ((0 : Int) == 0) else false) = true
                  rw [if_neg (by decide), if_neg (by decide), if_pos rfl, List.all_cons, hq]
                  rfl
              · rw [if_neg h4] at h; cases h
    · exact ih z hz
/-- Tokens written one after the other, with a space between them, are scanned as themselves. -/
theorem scan_join (l : List S35) : ∀ (x : S35) (p : Nat), validB x = true → (∀ z ∈ l, validB z = true) → ∃ ts, scan (wordL x ++ joinTail [32] (l.map wordL)) p = (ts, none) ∧ sameB (x :: l) ts = true := by
  induction l with
  | nil =>
    intro x p hx _
    refine ⟨[⟨x.f0, x.f1, x.f2, (p : Int)⟩], ?_, ?_⟩
    · show scan (wordL x ++ []) p = _
      rw [scan_word hx [] (fun b hb => by cases hb), scan_nil]
      rfl
    · show (same1 x _ && true) = true
      rw [Bool.and_true]
      exact decide_eq_true ⟨rfl, rfl, rfl⟩
  | cons z l ih =>
    intro x p hx hl
    have hj : joinTail [32] ((z :: l).map wordL) = 32 :: (wordL z ++ joinTail [32] (l.map wordL)) := by simp [joinTail]
    obtain ⟨ts, h1, h2⟩ := ih z (p + (wordL x).length + 1) (hl z (by simp)) (fun a ha => hl a (by simp [ha]))
    refine ⟨⟨x.f0, x.f1, x.f2, (p : Int)⟩ :: ts, ?_, ?_⟩
    · rw [hj, scan_word hx _ (fun b hb => by have e : (32 : UInt8) = b := Option.some.inj hb; (subst e; exact cls32)), scan_sp cls32, h1]
      rfl
    · show (same1 x _ && sameB (z :: l) ts) = true
      rw [h2, Bool.and_true]
      exact decide_eq_true ⟨rfl, rfl, rfl⟩
theorem scan_text (l : List S35) (h : ∀ z ∈ l, validB z = true) (p : Nat) : ∃ ts, scan (join (l.map wordL) [32]) p = (ts, none) ∧ sameB l ts = true := by
  cases l with
  | nil => exact ⟨[], rfl, rfl⟩
  | cons x l =>
    rw [List.map_cons, join_cons]
    exact scan_join l x p (h x (by simp)) (fun z hz => h z (by simp [hz]))
theorem lexF_text (l : List S35) (h : ∀ z ∈ l, validB z = true) (hs : (join (l.map wordL) [32]).length ≤ 65536) : ∃ ts, lexF ⟨(join (l.map wordL) [32]).toArray⟩ = (ts, 0, 0) ∧ sameB l ts = true := by
  obtain ⟨ts, h1, h2⟩ := scan_text l h 0
  refine ⟨ts, ?_, h2⟩
  rw [lexF_scan _ (by rw [← data_length]; simpa using hs)]
  show fin [] (scan ((join (l.map wordL) [32]).toArray.toList) 0) = _
  rw [List.toList_toArray, h1]
  rfl
/-- The texts of a source's tokens are no longer than it. -/
theorem word_of {k : Int} {t : List UInt8} {n : Int} {l : List UInt8} {m p : Nat} (h : piece l = some (.tok k t n, m)) : (wordL ⟨k, ⟨t.toArray⟩, n, (p : Int)⟩) = l.take m := by
  cases l with
  | nil => cases h
  | cons c r =>
    have ht : ∀ n, (c :: r).take (1 + n) = c :: r.take n := fun n => by rw [Nat.add_comm 1, List.take_succ_cons]
    simp only [piece] at h
    by_cases h1 : clsB c = 1
    · rw [if_pos h1] at h; injection h with h; injection h with h; cases h
    · rw [if_neg h1] at h
      by_cases h2 : clsB c = 2
      · rw [if_pos h2] at h
        by_cases hn : nameL (c :: r.takeWhile partB) = true
        · rw [if_pos hn] at h
          injection h with h
          injection h with h hm
          injection h with q1 q2 q3
          subst q1
          subst q2
          subst hm
          rw [ht, take_takeWhile]
          unfold wordL wordB
          rw [if_neg (show ¬ ((1 : Int) = 2) by decide)]
        · rw [if_neg hn] at h; cases h
      · rw [if_neg h2] at h
        by_cases h3 : clsB c = 3
        · rw [if_pos h3] at h
          cases hv : numL (c :: r.takeWhile digB) with
          | none => rw [hv] at h; cases h
          | some v =>
            rw [hv] at h
            injection h with h
            injection h with h hm
            injection h with q1 q2 q3
            subst q1
            subst q2
            subst q3
            subst hm
            rw [ht, take_takeWhile]
            unfold numL at hv
            split at hv
            · rename_i hcv
              injection hv with hv
              subst hv
              unfold wordL wordB
              rw [if_pos rfl]
              show decDigits ((dval 0 (c :: r.takeWhile digB) : Int)).toNat = _
              rw [Int.toNat_natCast]
              refine dec_val _ _ rfl (by simp) (dig_all _ ?_) hcv.1
              intro a ha
              rcases List.mem_cons.1 ha with rfl | ha
              · unfold digB; rw [h3]; rfl
              · exact tw_mem a ha
            · cases hv
        · rw [if_neg h3] at h
          by_cases h4 : clsB c = 4
          · rw [if_pos h4] at h
            by_cases hcm : c = 47 ∧ r.head? = some 47
            · rw [if_pos hcm] at h; injection h with h; injection h with h; cases h
            · rw [if_neg hcm] at h
              injection h with h
              injection h with h hm
              injection h with q1 q2 q3
              subst q1
              subst q2
              subst hm
              unfold wordL wordB
              rw [if_neg (show ¬ ((3 : Int) = 2) by decide)]
              rfl
          · rw [if_neg h4] at h; cases h
theorem scan_lens (l : List UInt8) (p : Nat) : lens ((scan l p).1.map wordL) ≤ l.length ∧ (scan l p).1.length ≤ l.length := by
  refine scan_ind (M := fun l p => lens ((scan l p).1.map wordL) ≤ l.length ∧ (scan l p).1.length ≤ l.length) (fun p => ⟨Nat.le_refl _, Nat.le_refl _⟩) (fun c r p h => by rw [scan_none h]; exact ⟨Nat.zero_le _, Nat.zero_le _⟩) (fun l x m p h h1 h2 ih => ?_) l p
  rw [scan_some h]
  rw [List.length_drop] at ih
  cases x with
  | sp => exact ⟨by have := ih.1; show lens ((scan _ _).1.map wordL) ≤ _; omega, by have := ih.2; show (scan _ _).1.length ≤ _; omega⟩
  | note => exact ⟨by have := ih.1; show lens ((scan _ _).1.map wordL) ≤ _; omega, by have := ih.2; show (scan _ _).1.length ≤ _; omega⟩
  | tok k t n =>
    have hw := congrArg List.length (word_of (p := p) h)
    rw [List.length_take] at hw
    have e : lens ((put (.tok k t n) p (scan (l.drop m) (p + m))).1.map wordL) = (wordL ⟨k, ⟨t.toArray⟩, n, (p : Int)⟩).length + lens ((scan (l.drop m) (p + m)).1.map wordL) := by
      show lens ((_ :: _ : List S35).map wordL) = _
      simp [lens]
    rw [e]
    refine ⟨by have := ih.1; omega, ?_⟩
    show (_ :: (scan _ _).1).length ≤ _
    rw [List.length_cons]
    have := ih.2
    omega
theorem join_le (l : List (List UInt8)) : (join l [32]).length ≤ lens l + l.length := by
  cases l with
  | nil => simp [join_nil]
  | cons a r =>
    rw [join_cons, List.length_append, joinTail_length]
    have : lens (a :: r) = a.length + lens r := by simp [lens]
    rw [this]
    simp only [List.length_cons, List.length_nil]
    omega
theorem scan_len (l : List UInt8) (p : Nat) : (scan l p).1.length ≤ l.length := (scan_lens l p).2
theorem lexF_len (s : ByteArray) : (lexF s).1.length ≤ 65536 := by
  by_cases h : s.size ≤ 65536
  · rw [lexF_scan s h]
    have := scan_len s.data.toList 0
    rw [data_length] at this
    unfold fin
    split
    · simp only [List.nil_append]; omega
    · exact Nat.zero_le _
  · unfold lexF
    rw [if_pos (by omega)]
    exact Nat.zero_le _
end Go.Proofs.YtpgjacoinldfhaaDoor.Pl
