/- The plain laws: numbers, the scanner piece by piece, texts, what the document's answer computes, the examples. -/
import Derived.Test.YtpgjacoinldfhaaDoorScan
import Derived.Test.YtpgjacoinldfhaaDoorLexV
import Derived.Test.YtpgjacoinldfhaaDoorQ3
import Derived.Test.YtpgjacoinldfhaaDoorQ7
import Derived.Test.YtpgjacoinldfhaaDoorHSame
import Derived.Test.YtpgjacoinldfhaaDoorHLex
import Derived.Test.YtpgjacoinldfhaaDoorQ4
import Derived.Test.YtpgjacoinldfhaaDoorQ9
import Derived.Lib.ItoaLen
import Derived.Test.YtpgjacoinldfhaaDoorQ5
section
namespace Go.Proofs.YtpgjacoinldfhaaDoor.Pl
open Go Go.Lib Go.Proofs.YtpgjacoinldfhaaDoor.Q
set_option linter.unusedVariables false
/-- The value of a row of digits, behind what was read. -/
def dval (acc : Nat) (l : List UInt8) : Nat := l.foldl (fun a c => a * 10 + (c.toNat - 48)) acc
theorem dval_nil (acc : Nat) : dval acc [] = acc := by unfold dval; exact List.foldl_nil
theorem dval_cons (acc : Nat) (c : UInt8) (r : List UInt8) : dval acc (c :: r) = dval (acc * 10 + (c.toNat - 48)) r := by unfold dval; exact List.foldl_cons ..
attribute [irreducible] dval
def dig (c : UInt8) : Bool := decide (48 ≤ c.toNat ∧ c.toNat ≤ 57)
theorem dval_append (acc : Nat) (a b : List UInt8) : dval acc (a ++ b) = dval (dval acc a) b := by
  induction a generalizing acc with
  | nil => rw [List.nil_append, dval_nil]
  | cons c r ih => rw [List.cons_append, dval_cons, dval_cons, ih]
theorem val_ge (l : List UInt8) (acc : Nat) : acc ≤ dval acc l := by
  induction l generalizing acc with
  | nil => rw [dval_nil]; exact Nat.le_refl acc
  | cons c r ih =>
    have h1 := ih (acc * 10 + (c.toNat - 48))
    have h2 : acc ≤ acc * 10 + (c.toNat - 48) := by omega
    rw [dval_cons]
    exact Nat.le_trans h2 h1
theorem parse_is : ∀ (l : List UInt8) (acc u : Nat), parseUint10 acc l = .ok u → u = dval acc l
  | [], acc, u, h => by
    simp only [parseUint10] at h
    injection h with h
    rw [dval_nil]
    exact h.symm
  | c :: r, acc, u, h => by
    simp only [parseUint10] at h
    split at h
    · split at h
      · cases h
      · split at h
        · cases h
        · rw [dval_cons]; exact parse_is r _ u h
    · cases h
theorem parse_val (l : List UInt8) : ∀ acc : Nat, l.all dig = true → dval acc l ≤ 1099511627776 → parseUint10 acc l = .ok (dval acc l) := by
  induction l with
  | nil => intro acc _ _; rw [dval_nil]; rfl
  | cons c r ih =>
    intro acc h hv
    rw [List.all_cons, Bool.and_eq_true] at h
    have hc : 48 ≤ c.toNat ∧ c.toNat ≤ 57 := of_decide_eq_true h.1
    have hv2 : dval (acc * 10 + (c.toNat - 48)) r ≤ 1099511627776 := by rw [dval_cons] at hv; exact hv
    have hg := val_ge r (acc * 10 + (c.toNat - 48))
    have e := ih (acc * 10 + (c.toNat - 48)) h.2 hv2
    have e2 : parseUint10 acc (c :: r) = parseUint10 (acc * 10 + (c.toNat - 48)) r := by
      rw [parseUint10, if_pos hc, if_neg (by omega), if_neg (by omega)]
    rw [dval_cons]
    exact e2.trans e
theorem digit_toNat (n : Nat) (h : n < 10) : (UInt8.ofNat (48 + n)).toNat = 48 + n := by
  rw [UInt8.toNat_ofNat']
  omega
theorem dec_all (u : Nat) : (decDigits u).all dig = true := by
  induction u using Nat.strongRecOn with
  | _ u ih =>
    by_cases h : u < 10
    · rw [decDigits, dif_pos h]
      simp only [List.all_cons, List.all_nil, Bool.and_true]
      exact decide_eq_true (by rw [digit_toNat u h]; omega)
    · rw [decDigits, dif_neg h, List.all_append, ih (u / 10) (by omega)]
      simp only [List.all_cons, List.all_nil, Bool.and_true, Bool.true_and]
      exact decide_eq_true (by rw [digit_toNat _ (by omega)]; omega)
theorem val_dec (u : Nat) : dval 0 (decDigits u) = u := by
  induction u using Nat.strongRecOn with
  | _ u ih =>
    by_cases h : u < 10
    · rw [decDigits, dif_pos h]
      simp only [dval_cons, dval_nil]
      rw [digit_toNat u h]
      omega
    · rw [decDigits, dif_neg h, dval_append, ih (u / 10) (by omega)]
      simp only [dval_cons, dval_nil]
      rw [digit_toNat _ (by omega)]
      omega
/-- Without a zero ahead, but for the one digit. -/
def canon (l : List UInt8) : Bool := decide (l.length = 1) || l.head? != some 48
theorem dec_ne (u : Nat) : decDigits u ≠ [] := by
  rw [decDigits]
  split <;> simp
theorem dec_head (u : Nat) : (decDigits u).head? = some 48 → u = 0 := by
  induction u using Nat.strongRecOn with
  | _ u ih =>
    by_cases h : u < 10
    · rw [decDigits, dif_pos h]
      intro e
      have e2 : UInt8.ofNat (48 + u) = 48 := by simpa using e
      have := congrArg UInt8.toNat e2
      rw [digit_toNat u h] at this
      have h3 : (48 : UInt8).toNat = 48 := rfl
      omega
    · rw [decDigits, dif_neg h]
      intro e
      have hne := dec_ne (u / 10)
      have e2 : (decDigits (u / 10)).head? = some 48 := by
        cases hd : decDigits (u / 10) with
        | nil => exact absurd hd hne
        | cons c r => rw [hd] at e; simpa using e
      have := ih (u / 10) (by omega) e2
      omega
theorem dec_canon (u : Nat) : canon (decDigits u) = true := by
  unfold canon
  by_cases h : (decDigits u).head? = some 48
  · have := dec_head u h
    subst this
    rw [decDigits]
    simp
  · simp [h]
theorem dec_val : ∀ (n : Nat) (l : List UInt8), l.length = n → l ≠ [] → l.all dig = true → canon l = true → decDigits (dval 0 l) = l := by
  intro n
  induction n using Nat.strongRecOn with
  | _ n ih =>
    intro l hn hne ha hc
    rcases List.eq_nil_or_concat l with rfl | ⟨r, c, rfl⟩
    · exact absurd rfl hne
    · rw [List.concat_eq_append] at *
      rw [List.all_append, Bool.and_eq_true] at ha
      have hcd : 48 ≤ c.toNat ∧ c.toNat ≤ 57 := by
        have := ha.2
        simp only [List.all_cons, List.all_nil, Bool.and_true] at this
        exact of_decide_eq_true this
      have hback : ∀ d, d = c.toNat - 48 → UInt8.ofNat (48 + d) = c := by
        intro d hd
        subst hd
        have : 48 + (c.toNat - 48) = c.toNat := by omega
        rw [this]
        exact UInt8.ofNat_toNat
      rw [dval_append]
      simp only [dval_cons, dval_nil]
      cases r with
      | nil =>
        simp only [dval_nil, List.nil_append]
        rw [decDigits, dif_pos (by omega)]
        rw [hback _ (by omega)]
      | cons a r =>
        have hcan : (a :: r ++ [c]).head? ≠ some 48 := by
          unfold canon at hc
          intro e
          rw [e] at hc
          simp at hc
        have ha48 : a ≠ 48 := by
          intro e
          subst e
          exact hcan rfl
        have hal := ha.1
        have had : 48 ≤ a.toNat ∧ a.toNat ≤ 57 := by
          rw [List.all_cons, Bool.and_eq_true] at hal
          exact of_decide_eq_true hal.1
        have ha1 : a.toNat ≠ 48 := fun e => ha48 (UInt8.toNat_inj.1 e)
        have hv : 1 ≤ dval 0 (a :: r) := by
          have := val_ge r (0 * 10 + (a.toNat - 48))
          simp only [dval_cons]
          omega
        have hr := ih (a :: r).length (by rw [← hn]; simp) (a :: r) rfl (by simp) hal (by
          unfold canon
          simp [ha48])
        rw [decDigits, dif_neg (by omega)]
        have e1 : (dval 0 (a :: r) * 10 + (c.toNat - 48)) / 10 = dval 0 (a :: r) := by omega
        have e2 : (dval 0 (a :: r) * 10 + (c.toNat - 48)) % 10 = c.toNat - 48 := by omega
        rw [e1, e2, hr, hback _ rfl]
/-- What a row of digits spells, if it may be written so. -/
def numL (l : List UInt8) : Option Int := if canon l = true ∧ dval 0 l ≤ 1099511627776 then some (dval 0 l : Int) else none
theorem itoa_nat (u : Nat) : itoa (u : Int) = decDigits u := by
  unfold itoa
  rw [if_neg (by omega), Int.toNat_natCast]
theorem numF_is (l : List UInt8) (hne : l ≠ []) (ha : l.all dig = true) : numF ⟨l.toArray⟩ = numL l := by
  obtain ⟨c, r, rfl⟩ := List.exists_cons_of_ne_nil hne
  have hcd : 48 ≤ c.toNat ∧ c.toNat ≤ 57 := by
    have := ha
    rw [List.all_cons, Bool.and_eq_true] at this
    exact of_decide_eq_true this.1
  have e1 : parseMag (c :: r) = parseUint10 0 (c :: r) := by
    unfold parseMag
    rw [if_neg (by simp)]
  have e0 : atoiAll (c :: r) = match parseUint10 0 (c :: r) with
      | .range => .range
      | .ok u => if 9223372036854775808 ≤ u then .range else .ok (u : Int)
      | _ => atoiAll [] := by
    unfold atoiAll
    simp only
    rw [if_neg (show ¬ (c.toNat = 43 ∨ c.toNat = 45) by omega), e1]
    cases parseUint10 0 (c :: r) with
    | ok u =>
      have h45 : ¬ (c.toNat = 45) := by omega
      simp only [h45, not_false_eq_true, true_and, false_and, if_false]
    | _ => rfl
  unfold numF numL
  show (match atoiAll (c :: r) with
    | .ok v => if dec v = (⟨(c :: r).toArray⟩ : ByteArray) ∧ validB (⟨2, ⟨#[]⟩, v, 0⟩ : S35) = true then some v else none
    | _ => none) = _
  rw [e0]
  have hval : ∀ u : Nat, validB ⟨2, ⟨#[]⟩, (u : Int), 0⟩ = decide (u ≤ 1099511627776) := by
    intro u
    unfold validB
    rw [if_neg (show ¬ ((2 : Int) = 1) by decide), if_pos (show (2 : Int) = 2 from rfl)]
    by_cases h : u ≤ 1099511627776
    · rw [decide_eq_true h]
      exact decide_eq_true ⟨rfl, (by omega : (0 : Int) ≤ (u : Int)), (by omega : (u : Int) ≤ 1099511627776)⟩
    · rw [decide_eq_false h]
      exact decide_eq_false (fun hh => h (by have h3 : (u : Int) ≤ 1099511627776 := hh.2.2; omega))
  by_cases hv : dval 0 (c :: r) ≤ 1099511627776
  · rw [parse_val _ _ ha hv]
    simp only
    rw [if_neg (by omega)]
    simp only [hval]
    by_cases hcn : canon (c :: r) = true
    · have hd := dec_val _ _ rfl hne ha hcn
      rw [if_pos ⟨by unfold dec; rw [itoa_nat, hd], decide_eq_true hv⟩, if_pos ⟨hcn, hv⟩]
    · rw [if_neg (c := canon (c :: r) = true ∧ _) (fun h => hcn h.1), if_neg]
      rintro ⟨h, _⟩
      apply hcn
      unfold dec at h
      rw [itoa_nat] at h
      have h2 : (decDigits (dval 0 (c :: r))) = c :: r := by
        have := congrArg (fun x : ByteArray => x.data.toList) h
        simpa using this
      rw [← h2]
      exact dec_canon _
  · rw [if_neg (fun h => hv h.2)]
    cases hp : parseUint10 0 (c :: r) with
    | ok u =>
      have := parse_is _ _ _ hp
      subst this
      by_cases hb : 9223372036854775808 ≤ dval 0 (c :: r)
      · simp only [if_pos hb]
      · simp only [if_neg hb, hval]
        rw [if_neg]
        rintro ⟨_, h⟩
        exact hv (of_decide_eq_true h)
    | _ => rfl
end Go.Proofs.YtpgjacoinldfhaaDoor.Pl
end
section
namespace Go.Proofs.YtpgjacoinldfhaaDoor.Pl
open Go Go.Lib Go.Proofs.YtpgjacoinldfhaaDoor.Q Go.Proofs.YtpgjacoinldfhaaDoorW.PrintWords Go.Proofs.YtpgjacoinldfhaaDoorW.PrintLast
set_option linter.unusedVariables false
def clsB (c : UInt8) : Int := clsN (c.toNat : Int)
def digB (c : UInt8) : Bool := clsB c == 3
/-- A piece of a source: white space, a comment, a token. -/
inductive Pc where
  | sp
  | note
  | tok (k : Int) (t : List UInt8) (n : Int)
/-- The piece at the beginning, and its length. -/
def piece : List UInt8 → Option (Pc × Nat)
  | [] => none
  | c :: r =>
    if clsB c = 1 then some (.sp, 1)
    else if clsB c = 2 then
      if nameL (c :: r.takeWhile partB) = true then some (.tok 1 (c :: r.takeWhile partB) 0, 1 + (r.takeWhile partB).length) else none
    else if clsB c = 3 then
      match numL (c :: r.takeWhile digB) with
      | some v => some (.tok 2 [] v, 1 + (r.takeWhile digB).length)
      | none => none
    else if clsB c = 4 then
      if c = 47 ∧ r.head? = some 47 then some (.note, 1 + (r.takeWhile (fun b => b != 10)).length) else some (.tok 3 [c] 0, 1)
    else none
def put (x : Pc) (p : Nat) (r : List S35 × Option Nat) : List S35 × Option Nat :=
  match x with
  | .tok k t n => con ⟨k, ⟨t.toArray⟩, n, (p : Int)⟩ r
  | _ => r
def scanK : Nat → List UInt8 → Nat → List S35 × Option Nat
  | 0, _, _ => ([], none)
  | k + 1, l, p =>
    match l with
    | [] => ([], none)
    | c :: r =>
      match piece (c :: r) with
      | none => ([], some p)
      | some (x, m) => put x p (scanK k ((c :: r).drop m) (p + m))
def scan (l : List UInt8) (p : Nat) : List S35 × Option Nat := scanK (l.length + 1) l p
theorem takeWhile_le {α : Type} (q : α → Bool) (l : List α) : (l.takeWhile q).length ≤ l.length := by
  induction l with
  | nil => exact Nat.le_refl _
  | cons a l ih =>
    rw [List.takeWhile_cons]
    split
    · simp only [List.length_cons]; omega
    · simp
theorem piece_len {l : List UInt8} {x : Pc} {m : Nat} (h : piece l = some (x, m)) : 1 ≤ m ∧ m ≤ l.length := by
  cases l with
  | nil => cases h
  | cons c r =>
    have h1 := takeWhile_le partB r
    have h2 := takeWhile_le digB r
    have h3 := takeWhile_le (fun b => b != 10) r
    simp only [piece] at h
    simp only [List.length_cons]
    split at h
    · injection h with h; injection h with _ h; omega
    · split at h
      · split at h
        · injection h with h; injection h with _ h; omega
        · cases h
      · split at h
        · split at h
          · injection h with h; injection h with _ h; omega
          · cases h
        · split at h
          · split at h
            · injection h with h; injection h with _ h; omega
            · injection h with h; injection h with _ h; omega
          · cases h
theorem scanK_more (n : Nat) : ∀ (l : List UInt8) (p k : Nat), l.length = n → n < k → scanK k l p = scanK (n + 1) l p := by
  induction n using Nat.strongRecOn with
  | _ n ih =>
    intro l p k hl hk
    obtain ⟨k, rfl⟩ : ∃ j, k = j + 1 := ⟨k - 1, by omega⟩
    cases l with
    | nil => rfl
    | cons c r =>
      simp only [scanK]
      cases hp : piece (c :: r) with
      | none => rfl
      | some xm =>
        obtain ⟨x, m⟩ := xm
        obtain ⟨h1, h2⟩ := piece_len hp
        simp only
        have hd : ((c :: r).drop m).length = n - m := by rw [List.length_drop, hl]
        rw [ih (n - m) (by omega) _ _ k hd (by omega), ih (n - m) (by omega) _ _ n hd (by omega)]
theorem scan_nil (p : Nat) : scan [] p = ([], none) := rfl
theorem scan_none {c : UInt8} {r : List UInt8} (h : piece (c :: r) = none) (p : Nat) : scan (c :: r) p = ([], some p) := by
  show scanK ((c :: r).length + 1) (c :: r) p = _
  simp only [scanK, h]
theorem scan_some {l : List UInt8} {x : Pc} {m : Nat} (h : piece l = some (x, m)) (p : Nat) : scan l p = put x p (scan (l.drop m) (p + m)) := by
  obtain ⟨h1, h2⟩ := piece_len h
  cases l with
  | nil => cases h
  | cons c r =>
    show scanK ((c :: r).length + 1) (c :: r) p = _
    simp only [scanK, h]
    rw [scanK_more ((c :: r).drop m).length _ _ _ rfl (by rw [List.length_drop]; omega)]
    rfl
/-- One piece after the other. -/
theorem scan_ind {M : List UInt8 → Nat → Prop} (hn : ∀ p, M [] p) (he : ∀ c r p, piece (c :: r) = none → M (c :: r) p)
    (hs : ∀ l x m p, piece l = some (x, m) → 1 ≤ m → m ≤ l.length → M (l.drop m) (p + m) → M l p) (l : List UInt8) (p : Nat) : M l p := by
  have all : ∀ n, ∀ (l : List UInt8) (p : Nat), l.length = n → M l p := by
    intro n
    induction n using Nat.strongRecOn with
    | _ n ih =>
      intro l p hl
      cases l with
      | nil => exact hn p
      | cons c r =>
        cases hp : piece (c :: r) with
        | none => exact he c r p hp
        | some xm =>
          obtain ⟨x, m⟩ := xm
          obtain ⟨h1, h2⟩ := piece_len hp
          exact hs _ x m p hp h1 h2 (ih (n - m) (by omega) _ _ (by rw [List.length_drop, hl]))
  exact all _ l p rfl
/-- A run of white space. -/
theorem scan_white (n : Nat) : ∀ (l : List UInt8) (p : Nat), n ≤ l.length → (∀ c ∈ l.take n, clsB c = 1) → scan l p = scan (l.drop n) (p + n) := by
  induction n with
  | zero => intro l p _ _; rfl
  | succ n ih =>
    intro l p hn hc
    cases l with
    | nil => simp at hn
    | cons c r =>
      have h1 : piece (c :: r) = some (.sp, 1) := by
        simp only [piece]
        rw [if_pos (hc c (by simp))]
      rw [scan_some h1]
      show scan r (p + 1) = _
      rw [ih r (p + 1) (by simpa using hn) (fun a ha => hc a (by simp [ha]))]
      rw [List.drop_succ_cons]
      congr 1
      omega
theorem drop_get {α : Type} (l : List α) (i : Nat) (h : i < l.length) : l.drop i = l[i] :: l.drop (i + 1) := List.drop_eq_getElem_cons h
theorem take_takeWhile {α : Type} (q : α → Bool) (l : List α) : l.take (l.takeWhile q).length = l.takeWhile q := by
  induction l with
  | nil => rfl
  | cons a l ih =>
    rw [List.takeWhile_cons]
    split
    · rw [List.length_cons, List.take_succ_cons, ih]
    · rfl
theorem fun_name : (fun c : UInt8 => [2, 3, 5].contains (clsN (c.toNat : Int))) = partB := by
  funext c
  show ((clsN (c.toNat : Int) == 2) || ((clsN (c.toNat : Int) == 3) || ((clsN (c.toNat : Int) == 5) || false))) = _
  rw [Bool.or_false, ← Bool.or_assoc]
  rfl
theorem fun_num : (fun c : UInt8 => [3].contains (clsN (c.toNat : Int))) = digB := by
  funext c
  show ((clsN (c.toNat : Int) == 3) || false) = _
  rw [Bool.or_false]
  rfl
theorem dig_all (l : List UInt8) (h : ∀ c ∈ l, digB c = true) : l.all dig = true := by
  rw [List.all_eq_true]
  intro c hc
  have h3 : clsN (c.toNat : Int) = 3 := by simpa [digB, clsB] using h c hc
  have hlt : c.toNat < 256 := c.toNat_lt
  have all : ∀ v : Fin 256, clsN (v.val : Int) = 3 → 48 ≤ v.val ∧ v.val ≤ 57 := by decide +kernel
  exact decide_eq_true (all ⟨c.toNat, hlt⟩ h3)
theorem cut_list (l : List Int) (src : ByteArray) (i : Nat) (hi : i ≤ src.size) : (cut l src i).data.toList = (src.data.toList.drop i).takeWhile fun c => l.contains (clsN (c.toNat : Int)) := by
  have hle := runEnd_le l src i hi
  unfold cut
  rw [ByteArray.data_extract, Array.toList_extract]
  rw [List.extract_eq_take_drop, show runEnd l src i - i = ((src.data.toList.drop i).takeWhile fun c => l.contains (clsN (c.toNat : Int))).length by unfold runEnd; omega]
  exact take_takeWhile _ _
theorem bytes_eq {a b : ByteArray} (h : a.data.toList = b.data.toList) : a = b := by
  apply ByteArray.ext
  apply Array.toList_inj.1
  exact h
theorem slashes_is (src : ByteArray) (i : Nat) (c : UInt8) (r : List UInt8) (h : src.data.toList.drop i = c :: r) : slashes src i = decide (c = 47 ∧ r.head? = some 47) := by
  unfold slashes
  rw [extract_drop, h]
  cases r with
  | nil =>
    rw [decide_eq_false (by simp)]
    show ((47 == c) && false) = false
    rw [Bool.and_false]
  | cons b r =>
    show ((47 == c) && ((47 == b) && true)) = _
    rw [Bool.and_true]
    by_cases h1 : c = 47
    · by_cases h2 : b = 47
      · subst h1; subst h2; simp
      · rw [decide_eq_false (by simp [h2])]
        have : ((47 : UInt8) == b) = false := beq_eq_false_iff_ne.2 (fun e => h2 e.symm)
        rw [this, Bool.and_false]
    · rw [decide_eq_false (by simp [h1])]
      have : ((47 : UInt8) == c) = false := beq_eq_false_iff_ne.2 (fun e => h1 e.symm)
      rw [this, Bool.false_and]
/-- The scanner of the translation. -/
theorem lexI_scan (src : ByteArray) (n : Nat) : ∀ (i k : Nat), i ≤ src.size → src.size - i = n → n < k → lexI src k i = scan (src.data.toList.drop i) i := by
  induction n using Nat.strongRecOn with
  | _ n ih =>
    intro i k hi hn hk
    obtain ⟨k, rfl⟩ : ∃ j, k = j + 1 := ⟨k - 1, by omega⟩
    by_cases hlt : i < src.size
    · have hlt' : i < src.data.toList.length := by rw [data_length]; exact hlt
      have hb : bt src (i : Int) = ((src.data.toList[i]'hlt').toNat : Int) := bt_get src i hlt
      have hdr := drop_get src.data.toList i hlt'
      have hcl : clsN (bt src (i : Int)) = clsB (src.data.toList[i]'hlt') := by rw [hb]; rfl
      simp only [lexI]
      rw [if_pos hlt, hcl]
      generalize hc : src.data.toList[i]'hlt' = c at *
      generalize hr : src.data.toList.drop (i + 1) = r at *
      by_cases h1 : clsB c = 1
      · rw [if_pos h1]
        have hm := runEnd_more [1] src i hlt (by rw [hcl, h1]; rfl)
        have hle := runEnd_le [1] src i hi
        rw [ih (src.size - runEnd [1] src i) (by omega) _ _ hle.2 rfl (by omega)]
        rw [scan_white (runEnd [1] src i - i) (src.data.toList.drop i) i (by rw [List.length_drop, data_length]; omega), List.drop_drop]
        · congr 2 <;> omega
        · intro a ha
          have e : runEnd [1] src i - i = ((src.data.toList.drop i).takeWhile fun c => [1].contains (clsN (c.toNat : Int))).length := by unfold runEnd; omega
          rw [e, take_takeWhile] at ha
          have := List.all_eq_true.1 (List.all_takeWhile (p := fun c : UInt8 => [1].contains (clsN (c.toNat : Int))) (l := src.data.toList.drop i)) a ha
          simpa [clsB] using this
      · rw [if_neg h1]
        by_cases h2 : clsB c = 2
        · rw [if_pos h2]
          have hcut : (cut [2, 3, 5] src i).data.toList = c :: r.takeWhile partB := by
            rw [cut_list _ _ _ hi, fun_name, hdr, List.takeWhile_cons]
            have : partB c = true := by
              unfold partB
              have : clsN (c.toNat : Int) = 2 := h2
              rw [this]; rfl
            rw [if_pos this]
          have hv : validB ⟨1, cut [2, 3, 5] src i, 0, 0⟩ = nameL (c :: r.takeWhile partB) := by
            unfold validB
            rw [if_pos rfl, hcut]
            simp
          have hs : (cut [2, 3, 5] src i) = ⟨(c :: r.takeWhile partB).toArray⟩ := bytes_eq (by rw [hcut])
          have hsz := cut_size [2, 3, 5] src i hi
          have hle := runEnd_le [2, 3, 5] src i hi
          have hsz2 : (cut [2, 3, 5] src i).size = 1 + (r.takeWhile partB).length := by
            rw [← data_length, hcut, List.length_cons]; omega
          rw [hv, hdr]
          by_cases hnm : nameL (c :: r.takeWhile partB) = true
          · rw [if_pos hnm]
            have hp : piece (c :: r) = some (.tok 1 (c :: r.takeWhile partB) 0, 1 + (r.takeWhile partB).length) := by
              simp only [piece]
              rw [if_neg h1, if_pos h2, if_pos hnm]
            rw [scan_some hp]
            rw [ih (src.size - runEnd [2, 3, 5] src i) (by omega) _ _ hle.2 rfl (by omega)]
            have e : runEnd [2, 3, 5] src i = i + (1 + (r.takeWhile partB).length) := by omega
            rw [e, ← hdr, List.drop_drop, hs]
            rfl
          · rw [if_neg hnm]
            exact (scan_none (by simp only [piece]; rw [if_neg h1, if_pos h2, if_neg hnm]) _).symm
        · rw [if_neg h2]
          by_cases h3 : clsB c = 3
          · rw [if_pos h3]
            have hcut : (cut [3] src i).data.toList = c :: r.takeWhile digB := by
              rw [cut_list _ _ _ hi, fun_num, hdr, List.takeWhile_cons]
              have : digB c = true := by
                unfold digB
                rw [h3]; rfl
              rw [if_pos this]
            have hs : (cut [3] src i) = ⟨(c :: r.takeWhile digB).toArray⟩ := bytes_eq (by rw [hcut])
            have hsz := cut_size [3] src i hi
            have hle := runEnd_le [3] src i hi
            have hsz2 : (cut [3] src i).size = 1 + (r.takeWhile digB).length := by
              rw [← data_length, hcut, List.length_cons]; omega
            have hall : (c :: r.takeWhile digB).all dig = true := dig_all _ (by
              intro a ha
              rcases List.mem_cons.1 ha with rfl | ha
              · unfold digB; rw [h3]; rfl
              · exact List.all_eq_true.1 List.all_takeWhile a ha)
            have hnum : numF (cut [3] src i) = numL (c :: r.takeWhile digB) := by rw [hs]; exact numF_is _ (by simp) hall
            rw [hnum, hdr]
            cases hv : numL (c :: r.takeWhile digB) with
            | none =>
              simp only
              exact (scan_none (by simp only [piece]; rw [if_neg h1, if_neg h2, if_pos h3, hv]) _).symm
            | some v =>
              simp only
              have hp : piece (c :: r) = some (.tok 2 [] v, 1 + (r.takeWhile digB).length) := by
                simp only [piece]
                rw [if_neg h1, if_neg h2, if_pos h3, hv]
              rw [scan_some hp]
              rw [ih (src.size - runEnd [3] src i) (by omega) _ _ hle.2 rfl (by omega)]
              have e : runEnd [3] src i = i + (1 + (r.takeWhile digB).length) := by omega
              rw [e, ← hdr, List.drop_drop]
              rfl
          · rw [if_neg h3]
            by_cases h4 : clsB c = 4
            · rw [if_pos h4]
              have hsl := slashes_is src i c r hdr
              by_cases hcm : c = 47 ∧ r.head? = some 47
              · rw [hsl, if_pos (decide_eq_true hcm)]
                have hp : piece (c :: r) = some (.note, 1 + (r.takeWhile (fun b => b != 10)).length) := by
                  simp only [piece]
                  rw [if_neg h1, if_neg h2, if_neg h3, if_pos h4, if_pos hcm]
                have hm := lineEnd_more src i hlt (by rw [hsl]; exact decide_eq_true hcm)
                have hle := lineEnd_le src i hi
                rw [hdr, scan_some hp]
                rw [ih (src.size - lineEnd src i) (by omega) _ _ hle rfl (by omega)]
                have e : lineEnd src i = i + (1 + (r.takeWhile (fun b => b != 10)).length) := by
                  unfold lineEnd
                  rw [hdr, List.takeWhile_cons, if_pos (by rw [hcm.1]; rfl), List.length_cons]
                  omega
                rw [e, ← hdr, List.drop_drop]
                rfl
              · rw [hsl, if_neg (by rw [decide_eq_false hcm]; simp)]
                have hp : piece (c :: r) = some (.tok 3 [c] 0, 1) := by
                  simp only [piece]
                  rw [if_neg h1, if_neg h2, if_neg h3, if_pos h4, if_neg hcm]
                rw [hdr, scan_some hp]
                rw [ih (src.size - (i + 1)) (by omega) _ _ (by omega) rfl (by omega)]
                have hone : one src i = ⟨[c].toArray⟩ := bytes_eq (by rw [one_list src i hlt, hc])
                rw [hone, ← hdr, List.drop_drop]
                rfl
            · rw [if_neg h4, hdr]
              exact (scan_none (by simp only [piece]; rw [if_neg h1, if_neg h2, if_neg h3, if_neg h4]) _).symm
    · have e : i = src.size := by omega
      subst e
      simp only [lexI]
      rw [if_neg hlt, List.drop_eq_nil_of_le (by rw [data_length]; omega)]
      rfl
theorem lexF_scan (src : ByteArray) (h : src.size ≤ 65536) : lexF src = fin [] (scan src.data.toList 0) := by
  unfold lexF
  rw [if_neg (by omega), lexI_scan src (src.size - 0) 0 _ (by omega) rfl (by omega)]
  rfl
end Go.Proofs.YtpgjacoinldfhaaDoor.Pl
end
section
namespace Go.Proofs.YtpgjacoinldfhaaDoor.Pl
open Go Go.Lib Go.RowKit Go.Proofs.YtpgjacoinldfhaaDoor.Q Go.Proofs.YtpgjacoinldfhaaDoorW.PrintWords Go.Proofs.YtpgjacoinldfhaaDoorW.PrintLast
set_option linter.unusedVariables false
theorem wrap_nat (i : Nat) (h : i < 4611686018427387904) : wrap64 ((i : Int) + 1) = ((i + 1 : Nat) : Int) := by
  rw [Q.wrap_small (by omega) (by omega)]
  omega
theorem letter_is (c : UInt8) : testamurref09_Letter.f (c.toNat : Int) = some (clsB c == 2) := by
  have all : ∀ v : Fin 256, testamurref09_Letter.f (v.val : Int) = some (clsN (v.val : Int) == 2) := by decide +kernel
  exact all ⟨c.toNat, c.toNat_lt⟩
theorem figure_is (c : UInt8) : testamurref09_Figure.f (c.toNat : Int) = some (digB c) := by
  have all : ∀ v : Fin 256, testamurref09_Figure.f (v.val : Int) = some (clsN (v.val : Int) == 3) := by decide +kernel
  exact all ⟨c.toNat, c.toNat_lt⟩
theorem part_is (c : UInt8) : testamurref09_part.f (c.toNat : Int) = some (partB c) := by
  have all : ∀ v : Fin 256, testamurref09_part.f (v.val : Int) = some (clsN (v.val : Int) == 2 || clsN (v.val : Int) == 3 || clsN (v.val : Int) == 5) := by decide +kernel
  exact all ⟨c.toNat, c.toNat_lt⟩
theorem space_is (c : UInt8) : testamurref09_Space.f (c.toNat : Int) = some (clsB c == 1) := by
  have all : ∀ v : Fin 256, testamurref09_Space.f (v.val : Int) = some (clsN (v.val : Int) == 1) := by decide +kernel
  exact all ⟨c.toNat, c.toNat_lt⟩
theorem sign_is (c : UInt8) : Ev (fun k => testamurref09_Sign.f k (c.toNat : Int)) (clsB c == 4) := by
  have all : ∀ v : Fin 256, testamurref09_Sign.f 20 (v.val : Int) = some (clsN (v.val : Int) == 4) := by decide +kernel
  exact Ev.of (testamurref09_Sign.mono _) (all ⟨c.toNat, c.toNat_lt⟩)
theorem bt_list (s : ByteArray) (i : Nat) (c : UInt8) (r : List UInt8) (h : s.data.toList.drop i = c :: r) : bt s (i : Int) = (c.toNat : Int) ∧ i < s.size ∧ s.data.toList.drop (i + 1) = r := by
  have hlt : i < s.data.toList.length := by
    rcases Nat.lt_or_ge i s.data.toList.length with h' | h'
    · exact h'
    · rw [List.drop_eq_nil_of_le h'] at h; cases h
  have hd := drop_get s.data.toList i hlt
  rw [h] at hd
  injection hd with h1 h2
  have hs : i < s.size := by rw [← data_length]; exact hlt
  exact ⟨by rw [bt_get s i hs, h1], hs, h2.symm⟩
theorem at_end (s : ByteArray) (i : Nat) (hi : i ≤ s.size) (h : s.data.toList.drop i = []) : i = s.size := by
  have := congrArg List.length h
  rw [List.length_drop, data_length] at this
  simp at this
  omega
theorem len_at (s : ByteArray) (i : Nat) (hi : i ≤ s.size) : (s.data.toList.drop i).length = s.size - i := by rw [List.length_drop, data_length]
/-- Name. -/
theorem refname_loop (s : ByteArray) (hs : s.size ≤ 1000000) (l : List UInt8) : ∀ i : Nat, i ≤ s.size → s.data.toList.drop i = l → Ev (fun k => testamurref09_Name.l0 k s (i : Int)) (l.all partB) := by
  induction l with
  | nil =>
    intro i hi hd
    have := at_end s i hi hd
    refine Ev.step (f := fun _ => some true) (fun k => ?_) (Ev.now _)
    simp only [testamurref09_Name.l0]
    rw [if_neg (by omega)]
  | cons c r ih =>
    intro i hi hd
    obtain ⟨hb, hlt, hd'⟩ := bt_list s i c r hd
    refine Ev.step (f := fun k => if partB c = true then testamurref09_Name.l0 k s ((i + 1 : Nat) : Int) else some false) (fun k => ?_) ?_
    · simp only [testamurref09_Name.l0]
      rw [if_pos (by omega), if_pos (by omega), hb, part_is, Option.bind_some, wrap_nat i (by omega)]
    · rw [List.all_cons]
      cases hc : partB c with
      | true => simpa using ih (i + 1) (by omega) hd'
      | false => simpa using Ev.now false
theorem refname_is (s : ByteArray) (hs : s.size ≤ 1000000) : Ev (fun k => testamurref09_Name.f k s) (nameL s.data.toList) := by
  have hlen := data_length s
  unfold testamurref09_Name.f nameL
  by_cases h0 : s.size = 0
  · rw [decide_eq_false (by omega)]
    refine Ev.congr (f := fun k => testamurref09_Name.j0 k s true) (fun k => by rw [if_pos (by omega)]) ?_
    exact Ev.step (f := fun _ => some false) (fun k => by simp only [testamurref09_Name.j0, if_true]) (Ev.now _)
  · by_cases h1 : 32 < s.size
    · rw [decide_eq_false (by omega)]
      refine Ev.congr (f := fun k => testamurref09_Name.j0 k s true) (fun k => by rw [if_neg (by omega), if_pos (by omega)]) ?_
      exact Ev.step (f := fun _ => some false) (fun k => by simp only [testamurref09_Name.j0, if_true]) (Ev.now _)
    · rw [decide_eq_true (⟨by omega, by omega⟩ : 0 < s.data.toList.length ∧ s.data.toList.length ≤ 32), Bool.true_and]
      obtain ⟨c, r, hcr⟩ : ∃ c r, s.data.toList = c :: r := List.exists_cons_of_ne_nil (by intro e; rw [e] at hlen; simp at hlen; omega)
      obtain ⟨hb, hlt, hd'⟩ := bt_list s 0 c r (by rw [List.drop_zero]; exact hcr)
      have hb0 : bt s 0 = (c.toNat : Int) := hb
      refine Ev.congr (f := fun k => testamurref09_Name.j0 k s (!(clsB c == 2))) (fun k => by rw [if_neg (by omega), if_neg (by omega), if_pos (by omega), hb0, letter_is, Option.bind_some]) ?_
      have hl := refname_loop s hs _ 0 (by omega) rfl
      rw [List.drop_zero] at hl
      rw [hcr] at hl ⊢
      rw [List.head?_cons, Option.all_some]
      refine Ev.step (f := fun k => if (!(clsB c == 2)) = true then some false else testamurref09_Name.l0 k s 0) (fun k => by simp only [testamurref09_Name.j0]) ?_
      show Ev _ ((clsB c == 2) && _)
      cases hc : (clsB c == 2) with
      | true =>
        rw [Bool.true_and]
        exact Ev.congr (fun k => if_neg (by simp)) hl
      | false => exact Ev.congr (fun k => if_pos (by simp)) (Ev.now false)
theorem byte_sub (c : UInt8) (h : digB c = true) : (((c.toNat : Int) - 48) % 256) = ((c.toNat - 48 : Nat) : Int) ∧ c.toNat - 48 ≤ 9 := by
  have h3 : clsN (c.toNat : Int) = 3 := by simpa [digB, clsB] using h
  have hlt : c.toNat < 256 := c.toNat_lt
  have all : ∀ v : Fin 256, clsN (v.val : Int) = 3 → 48 ≤ v.val ∧ v.val ≤ 57 := by decide +kernel
  have := all ⟨c.toNat, hlt⟩ h3
  simp only at this
  omega
/-- number. -/
theorem refnumber_loop (s : ByteArray) (hs : s.size ≤ 1000000) (h0 : s.size ≠ 0) (l : List UInt8) : ∀ (i n : Nat), i ≤ s.size → s.data.toList.drop i = l → (∀ c ∈ l, digB c = true) → n ≤ 1099511627776 →
    Ev (fun k => testamurref09_number.l0 k s (n : Int) (i : Int)) (if dval n l ≤ 1099511627776 then ((dval n l : Int), canon s.data.toList) else (0, false)) := by
  have hlen := data_length s
  induction l with
  | nil =>
    intro i n hi hd _ hn
    have := at_end s i hi hd
    rw [dval_nil, if_pos hn]
    obtain ⟨c, r, hcr⟩ : ∃ c r, s.data.toList = c :: r := List.exists_cons_of_ne_nil (by intro e; rw [e] at hlen; simp at hlen; omega)
    obtain ⟨hb, hlt, hd'⟩ := bt_list s 0 c r (by rw [List.drop_zero]; exact hcr)
    have hb0 : bt s 0 = (c.toNat : Int) := hb
    refine Ev.step (f := fun _ => some ((n : Int), canon s.data.toList)) (fun k => ?_) (Ev.now _)
    simp only [testamurref09_number.l0]
    rw [if_neg (by omega)]
    unfold canon
    by_cases h1 : s.size = 1
    · rw [if_pos (by omega), decide_eq_true (by omega), Bool.true_or]
    · rw [if_neg (by omega), if_pos (by omega), decide_eq_false (by omega), Bool.false_or, hb0, hcr, List.head?_cons]
      congr 2
      by_cases hc : c = 48
      · subst hc; rfl
      · have h2 : (c.toNat : Int) ≠ 48 := fun e => hc (UInt8.toNat_inj.1 (by have : (48 : UInt8).toNat = 48 := rfl; omega))
        have h3 : (some c : Option UInt8) ≠ some 48 := fun e => hc (Option.some.inj e)
        rw [bne_iff_ne.2 h2, bne_iff_ne.2 h3]
  | cons c r ih =>
    intro i n hi hd hall hn
    obtain ⟨hb, hlt, hd'⟩ := bt_list s i c r hd
    obtain ⟨hsub, h9⟩ := byte_sub c (hall c (by simp))
    have hw1 : wrap64 (10 * (n : Int)) = 10 * (n : Int) := Q.wrap_small (by omega) (by omega)
    have hw2 : wrap64 (10 * (n : Int) + ((c.toNat - 48 : Nat) : Int)) = ((n * 10 + (c.toNat - 48) : Nat) : Int) := by rw [Q.wrap_small (by omega) (by omega)]; omega
    refine Ev.step (f := fun k => if ((n * 10 + (c.toNat - 48) : Nat) : Int) > 1099511627776 then some (0, false) else testamurref09_number.l0 k s ((n * 10 + (c.toNat - 48) : Nat) : Int) ((i + 1 : Nat) : Int)) (fun k => ?_) ?_
    · simp only [testamurref09_number.l0]
      rw [if_pos (by omega), if_pos (by omega), hb, hsub, hw1, hw2, wrap_nat i (by omega)]
    · rw [dval_cons]
      by_cases hbig : n * 10 + (c.toNat - 48) ≤ 1099511627776
      · refine Ev.congr (fun k => if_neg (by omega)) (ih (i + 1) _ (by omega) hd' (fun a ha => hall a (by simp [ha])) hbig)
      · have := val_ge r (n * 10 + (c.toNat - 48))
        rw [if_neg (by omega)]
        exact Ev.congr (fun k => if_pos (by omega)) (Ev.now _)
theorem refnumber_is (s : ByteArray) (hs : s.size ≤ 1000000) (h0 : s.size ≠ 0) (hall : ∀ c ∈ s.data.toList, digB c = true) :
    Ev (fun k => testamurref09_number.f k s) (if dval 0 s.data.toList ≤ 1099511627776 then ((dval 0 s.data.toList : Int), canon s.data.toList) else (0, false)) :=
  refnumber_loop s hs h0 _ 0 0 (by omega) (by rw [List.drop_zero]) hall (by omega)
/-- Same, Equal. -/
theorem rd_drop (l : List S35) (i : Nat) (x : S35) (r : List S35) (h : l.drop i = x :: r) : rd_T35 l (i : Int) = x ∧ i < l.length ∧ l.drop (i + 1) = r := by
  have hlt : i < l.length := by
    rcases Nat.lt_or_ge i l.length with h' | h'
    · exact h'
    · rw [List.drop_eq_nil_of_le h'] at h; cases h
  have hd := drop_get l i hlt
  rw [h] at hd
  injection hd with h1 h2
  refine ⟨?_, hlt, h2.symm⟩
  unfold rd_T35
  rw [Int.toNat_natCast, List.getD_eq_getElem?_getD, List.getElem?_eq_getElem hlt, h1]
  rfl
theorem drop_end {l : List S35} {i : Nat} (h : l.drop i = []) : l.length ≤ i := List.drop_eq_nil_iff.1 h
theorem toList_iff (a b : ByteArray) : a.toList = b.toList ↔ a = b := by
  constructor
  · intro h
    have : a.data.toList = b.data.toList := by
      rw [ByteArray.toList_eq a, ByteArray.toList_eq b] at h
      exact h
    exact bytes_eq this
  · rintro rfl; rfl
theorem refsame_loop (l m : List S35) (hl : l.length < 4611686018427387904) (hlm : l.length = m.length) (n : Nat) : ∀ i : Nat, l.length - i = n → i ≤ l.length →
    Ev (fun k => testamurref09_Same.l0 k l m (i : Int)) (sameB (l.drop i) (m.drop i)) := by
  induction n with
  | zero =>
    intro i h1 h2
    have h3 : l.length = i := by omega
    rw [List.drop_eq_nil_of_le (by omega), List.drop_eq_nil_of_le (by omega)]
    refine Ev.step (f := fun _ => some true) (fun k => ?_) (Ev.now _)
    simp only [testamurref09_Same.l0]
    rw [if_neg (by omega)]
  | succ n ih =>
    intro i h1 h2
    have hx := drop_get l i (by omega)
    have hy := drop_get m i (by omega)
    obtain ⟨ex, _, _⟩ := rd_drop l i _ _ hx
    obtain ⟨ey, _, _⟩ := rd_drop m i _ _ hy
    rw [hx, hy]
    generalize l[i]'(by omega) = x at *
    generalize m[i]'(by omega) = y at *
    refine Ev.step (f := fun k => if x.f0 = y.f0 then (if x.f1.toList = y.f1.toList then (if x.f2 = y.f2 then testamurref09_Same.l0 k l m ((i + 1 : Nat) : Int) else some false) else some false) else some false) (fun k => ?_) ?_
    · simp only [testamurref09_Same.l0]
      rw [if_pos (by omega), if_pos (by omega), if_pos (by omega), ex, ey, wrap_nat i (by omega)]
    · show Ev _ (same1 x y && sameB (l.drop (i + 1)) (m.drop (i + 1)))
      unfold same1
      by_cases a : x.f0 = y.f0
      · by_cases b : x.f1 = y.f1
        · by_cases c : x.f2 = y.f2
          · rw [decide_eq_true ⟨a, b, c⟩, Bool.true_and]
            refine Ev.congr (fun k => ?_) (ih (i + 1) (by omega) (by omega))
            rw [if_pos a, if_pos ((toList_iff _ _).2 b), if_pos c]
          · rw [decide_eq_false (fun h => c h.2.2), Bool.false_and]
            exact Ev.congr (fun k => by rw [if_pos a, if_pos ((toList_iff _ _).2 b), if_neg c]) (Ev.now _)
        · rw [decide_eq_false (fun h => b h.2.1), Bool.false_and]
          exact Ev.congr (fun k => by rw [if_pos a, if_neg (fun h => b ((toList_iff _ _).1 h))]) (Ev.now _)
      · rw [decide_eq_false (fun h => a h.1), Bool.false_and]
        exact Ev.congr (fun k => by rw [if_neg a]) (Ev.now _)
theorem refsame_is (l m : List S35) (hl : l.length < 4611686018427387904) (hm : m.length < 4611686018427387904) : Ev (fun k => testamurref09_Same.f k l m) (sameB l m) := by
  unfold testamurref09_Same.f
  by_cases h : l.length = m.length
  · have := refsame_loop l m hl h _ 0 rfl (by omega)
    rw [List.drop_zero, List.drop_zero] at this
    exact Ev.congr (fun k => if_pos (by omega)) this
  · rw [sameB_len l m h]
    exact Ev.congr (fun k => if_neg (by omega)) (Ev.now _)
theorem sameB_refl (l : List S35) : sameB l l = true := by
  induction l with
  | nil => rfl
  | cons x r ih =>
    show (same1 x x && sameB r r) = true
    rw [ih]
    simp [same1]
theorem refequal_loop (l : List S35) (hl : l.length < 4611686018427387904) (n : Nat) : ∀ i : Nat, l.length - i = n → i ≤ l.length →
    Ev (fun k => testamurref09_Equal.l0 k l l (i : Int)) true := by
  induction n with
  | zero =>
    intro i h1 h2
    refine Ev.step (f := fun _ => some true) (fun k => ?_) (Ev.now _)
    simp only [testamurref09_Equal.l0]
    rw [if_neg (by omega)]
  | succ n ih =>
    intro i h1 h2
    refine Ev.step (f := fun k => testamurref09_Equal.l0 k l l ((i + 1 : Nat) : Int)) (fun k => ?_) (ih (i + 1) (by omega) (by omega))
    simp only [testamurref09_Equal.l0]
    rw [if_pos (by omega), if_pos (by omega), if_pos (by omega), if_pos trivial, wrap_nat i (by omega)]
theorem refequal_is (l : List S35) (hl : l.length < 4611686018427387904) : Ev (fun k => testamurref09_Equal.f k l l) true := by
  unfold testamurref09_Equal.f
  have h1 := refsame_is l l hl hl
  rw [sameB_refl] at h1
  refine Ev.bind h1 ?_
  have := refequal_loop l hl _ 0 rfl (by omega)
  simpa using this
end Go.Proofs.YtpgjacoinldfhaaDoor.Pl
end
section
namespace Go.Proofs.YtpgjacoinldfhaaDoor.Pl
open Go Go.Lib Go.RowKit Go.Proofs.YtpgjacoinldfhaaDoor.Q Go.Proofs.YtpgjacoinldfhaaDoorW.PrintWords Go.Proofs.YtpgjacoinldfhaaDoorW.PrintLast
set_option linter.unusedVariables false
theorem extract_list (s : ByteArray) (i m : Nat) : (s.extract i (i + m)).data.toList = (s.data.toList.drop i).take m := by
  rw [ByteArray.data_extract, Array.toList_extract, List.extract_eq_take_drop, Nat.add_sub_cancel_left]
theorem takeWhile_cons_true {q : UInt8 → Bool} {c : UInt8} {r : List UInt8} (h : q c = true) : (c :: r).takeWhile q = c :: r.takeWhile q := by rw [List.takeWhile_cons, if_pos h]
theorem takeWhile_cons_false {q : UInt8 → Bool} {c : UInt8} {r : List UInt8} (h : q c = false) : (c :: r).takeWhile q = [] := by rw [List.takeWhile_cons, if_neg (by simp [h])]
theorem reflex_l1 (src : ByteArray) (hs : src.size ≤ 65536) (xs : List S35) (res : List S35 × Int × Int) (l : List UInt8) : ∀ i : Nat, i ≤ src.size → src.data.toList.drop i = l →
    Ev (fun k => testamurref09_Lex.l0 k src xs ((i + (l.takeWhile (fun b => b != 10)).length : Nat) : Int)) res → Ev (fun k => testamurref09_Lex.l1 k src xs (i : Int)) res := by
  induction l with
  | nil =>
    intro i hi hd h
    have := at_end src i hi hd
    refine Ev.step (f := fun k => testamurref09_Lex.l0 k src xs (i : Int)) (fun k => ?_) (by simpa using h)
    simp only [testamurref09_Lex.l1]
    rw [if_neg (by omega)]
  | cons c r ih =>
    intro i hi hd h
    obtain ⟨hb, hlt, hd'⟩ := bt_list src i c r hd
    refine Ev.step (f := fun k => if (c.toNat : Int) = 10 then testamurref09_Lex.l0 k src xs (i : Int) else testamurref09_Lex.l1 k src xs ((i + 1 : Nat) : Int)) (fun k => ?_) ?_
    · simp only [testamurref09_Lex.l1]
      rw [if_pos (by omega), if_pos (by omega), hb, wrap_nat i (by omega)]
    · by_cases h10 : c = 10
      · subst h10
        rw [takeWhile_cons_false (by rfl)] at h
        exact Ev.congr (fun k => if_pos rfl) h
      · have hn : ¬ (c.toNat : Int) = 10 := fun e => h10 (UInt8.toNat_inj.1 (by have : (10 : UInt8).toNat = 10 := rfl; omega))
        rw [takeWhile_cons_true (q := fun b => b != 10) (bne_iff_ne.2 h10), List.length_cons] at h
        refine Ev.congr (fun k => if_neg hn) (ih (i + 1) (by omega) hd' ?_)
        rw [show i + 1 + (r.takeWhile fun b => b != 10).length = i + ((r.takeWhile fun b => b != 10).length + 1) by omega]
        exact h
def T2 (src : ByteArray) (xs : List S35) (a e : Nat) (k : Nat) : Option (List S35 × Int × Int) :=
  (testamurref09_Name.f k (src.extract a e)).bind fun t => if t = true then testamurref09_Lex.l0 k src (xs ++ [⟨1, src.extract a e, 0, (a : Int)⟩]) (e : Int) else some ([], (a : Int), 90)
theorem reflex_l2 (src : ByteArray) (hs : src.size ≤ 65536) (xs : List S35) (hxs : xs.length ≤ 65536) (a : Nat) (res : List S35 × Int × Int) (l : List UInt8) : ∀ i : Nat, a ≤ i → i ≤ src.size → src.data.toList.drop i = l →
    Ev (T2 src xs a (i + (l.takeWhile partB).length)) res → Ev (fun k => testamurref09_Lex.l2 k src xs (i : Int) (a : Int)) res := by
  induction l with
  | nil =>
    intro i ha hi hd h
    have := at_end src i hi hd
    refine Ev.step (f := T2 src xs a i) (fun k => ?_) (by simpa using h)
    simp only [testamurref09_Lex.l2, T2]
    rw [if_neg (by omega), if_pos (by omega), if_pos (by omega), if_pos (by omega), if_pos (by omega)]
    rfl
  | cons c r ih =>
    intro i ha hi hd h
    obtain ⟨hb, hlt, hd'⟩ := bt_list src i c r hd
    refine Ev.step (f := fun k => if partB c = true then testamurref09_Lex.l2 k src xs ((i + 1 : Nat) : Int) (a : Int) else T2 src xs a i k) (fun k => ?_) ?_
    · simp only [testamurref09_Lex.l2, T2]
      rw [if_pos (by omega), if_pos (by omega), hb, part_is, Option.bind_some, wrap_nat i (by omega)]
      cases partB c with
      | true => rfl
      | false =>
        rw [if_neg (by simp), if_pos (by omega), if_pos (by omega), if_pos (by omega)]
        simp only [if_pos (show xs.length < 3518437208883 by omega)]
        rfl
    · cases hc : partB c with
      | true =>
        rw [takeWhile_cons_true hc, List.length_cons] at h
        refine Ev.congr (fun k => if_pos rfl) (ih (i + 1) (by omega) (by omega) hd' ?_)
        rw [show i + 1 + (r.takeWhile partB).length = i + ((r.takeWhile partB).length + 1) by omega]
        exact h
      | false =>
        rw [takeWhile_cons_false hc] at h
        exact Ev.congr (fun k => if_neg (by simp)) h
def T3 (src : ByteArray) (xs : List S35) (a e : Nat) (k : Nat) : Option (List S35 × Int × Int) :=
  (testamurref09_number.f k (src.extract a e)).bind fun t => if t.2 = true then testamurref09_Lex.l0 k src (xs ++ [⟨2, ⟨#[]⟩, t.1, (a : Int)⟩]) (e : Int) else some ([], (a : Int), 90)
theorem reflex_j5 (src : ByteArray) (xs : List S35) (hxs : xs.length ≤ 65536) (a i k : Nat) (ha : a ≤ i) (hi : i ≤ src.size) : testamurref09_Lex.j5 (k + 1) src xs (i : Int) (a : Int) = T3 src xs a i k := by
  simp only [testamurref09_Lex.j5, T3]
  rw [if_pos (by omega), if_pos (by omega), if_pos (by omega)]
  simp only [if_pos (show xs.length < 3518437208883 by omega)]
  rfl
theorem reflex_l3 (src : ByteArray) (hs : src.size ≤ 65536) (xs : List S35) (hxs : xs.length ≤ 65536) (a : Nat) (res : List S35 × Int × Int) (l : List UInt8) : ∀ i : Nat, a ≤ i → i ≤ src.size → src.data.toList.drop i = l →
    Ev (T3 src xs a (i + (l.takeWhile digB).length)) res → Ev (fun k => testamurref09_Lex.l3 k src xs (i : Int) (a : Int)) res := by
  induction l with
  | nil =>
    intro i ha hi hd h
    have := at_end src i hi hd
    refine Ev.step (f := fun k => testamurref09_Lex.j5 k src xs (i : Int) (a : Int)) (fun k => ?_) (Ev.step (fun k => reflex_j5 src xs hxs a i k ha hi) (by simpa using h))
    simp only [testamurref09_Lex.l3]
    rw [if_neg (by omega)]
  | cons c r ih =>
    intro i ha hi hd h
    obtain ⟨hb, hlt, hd'⟩ := bt_list src i c r hd
    refine Ev.step (f := fun k => if digB c = true then testamurref09_Lex.l3 k src xs ((i + 1 : Nat) : Int) (a : Int) else testamurref09_Lex.j5 k src xs (i : Int) (a : Int)) (fun k => ?_) ?_
    · simp only [testamurref09_Lex.l3]
      rw [if_pos (by omega), if_pos (by omega), hb, figure_is, Option.bind_some, wrap_nat i (by omega)]
    · cases hc : digB c with
      | true =>
        rw [takeWhile_cons_true hc, List.length_cons] at h
        refine Ev.congr (fun k => if_pos rfl) (ih (i + 1) (by omega) (by omega) hd' ?_)
        rw [show i + 1 + (r.takeWhile digB).length = i + ((r.takeWhile digB).length + 1) by omega]
        exact h
      | false =>
        rw [takeWhile_cons_false hc] at h
        exact Ev.congr (fun k => if_neg (by simp)) (Ev.step (fun k => reflex_j5 src xs hxs a i k ha hi) h)
theorem fin_con (xs : List S35) (x : S35) (r : List S35 × Option Nat) : fin xs (con x r) = fin (xs ++ [x]) r := by
  obtain ⟨a, b⟩ := r
  cases b with
  | none => show (xs ++ x :: a, _, _) = (xs ++ [x] ++ a, _, _); simp
  | some p => rfl
theorem fin_none (xs : List S35) (p : Nat) : fin xs ([], some p) = ([], (p : Int), 90) := rfl
/-- The scanner of the document. -/
theorem reflex_l0 (src : ByteArray) (hs : src.size ≤ 65536) (n : Nat) : ∀ (i : Nat) (xs : List S35), i ≤ src.size → src.size - i = n → xs.length ≤ i →
    Ev (fun k => testamurref09_Lex.l0 k src xs (i : Int)) (fin xs (scan (src.data.toList.drop i) i)) := by
  induction n using Nat.strongRecOn with
  | _ n ih =>
    intro i xs hi hn hxs
    have hlen := len_at src i hi
    cases hd : src.data.toList.drop i with
    | nil =>
      have := at_end src i hi hd
      rw [scan_nil]
      refine Ev.step (f := fun _ => some (fin xs ([], none))) (fun k => ?_) (Ev.now _)
      simp only [testamurref09_Lex.l0]
      rw [if_neg (by omega)]
      simp [fin]
    | cons c r =>
      obtain ⟨hb, hlt, hd'⟩ := bt_list src i c r hd
      rw [hd, List.length_cons] at hlen
      have hcl : clsN (c.toNat : Int) = clsB c := rfl
      by_cases h1 : clsB c = 1
      · have hp : piece (c :: r) = some (.sp, 1) := by simp only [piece]; rw [if_pos h1]
        rw [scan_some hp]
        show Ev _ (fin xs (scan r (i + 1)))
        rw [← hd']
        refine Ev.step (f := fun k => testamurref09_Lex.l0 k src xs ((i + 1 : Nat) : Int)) (fun k => ?_) (ih (src.size - (i + 1)) (by omega) (i + 1) xs (by omega) rfl (by omega))
        simp only [testamurref09_Lex.l0]
        rw [if_pos (by omega), if_pos (by omega), hb, space_is, Option.bind_some, h1, wrap_nat i (by omega)]
        rfl
      · -- no white space
        have hj : ∀ k, testamurref09_Lex.l0 (k + 1) src xs (i : Int) = testamurref09_Lex.j1 k src xs (i : Int) (i : Int) (decide (c = 47 ∧ r.head? = some 47)) := by
          intro k
          simp only [testamurref09_Lex.l0]
          rw [if_pos (by omega), if_pos (by omega), hb, space_is, Option.bind_some, beq_eq_false_iff_ne.2 h1, if_neg (by simp), wrap_nat i (by omega)]
          by_cases h47 : c = 47
          · subst h47
            rw [if_pos (show (((47 : UInt8).toNat : Nat) : Int) = 47 from rfl)]
            cases r with
            | nil =>
              simp only [List.length_nil] at hlen
              rw [if_neg (by omega)]
              rfl
            | cons b r' =>
              simp only [List.length_cons] at hlen
              obtain ⟨hb2, _, _⟩ := bt_list src (i + 1) b r' hd'
              rw [if_pos (by omega), if_pos (by omega), hb2]
              congr 1
              by_cases hb47 : b = 47
              · subst hb47; rfl
              · have hne : (b.toNat : Int) ≠ 47 := fun e => hb47 (UInt8.toNat_inj.1 (by have : (47 : UInt8).toNat = 47 := rfl; omega))
                rw [beq_eq_false_iff_ne.2 hne, decide_eq_false (by simp [hb47])]
          · have hne : ¬ (c.toNat : Int) = 47 := fun e => h47 (UInt8.toNat_inj.1 (by have : (47 : UInt8).toNat = 47 := rfl; omega))
            rw [if_neg hne, decide_eq_false (fun h => h47 h.1)]
        refine Ev.step hj ?_
        by_cases hcm : c = 47 ∧ r.head? = some 47
        · -- a comment
          rw [decide_eq_true hcm]
          have h2 : ¬ clsB c = 2 := by rw [hcm.1]; decide
          have h3 : ¬ clsB c = 3 := by rw [hcm.1]; decide
          have h4 : clsB c = 4 := by rw [hcm.1]; decide
          have hp : piece (c :: r) = some (.note, 1 + (r.takeWhile (fun b => b != 10)).length) := by
            simp only [piece]
            rw [if_neg h1, if_neg h2, if_neg h3, if_pos h4, if_pos hcm]
          have hpl := piece_len hp
          simp only [List.length_cons] at hpl
          rw [scan_some hp]
          show Ev _ (fin xs (scan ((c :: r).drop _) _))
          refine Ev.step (f := fun k => testamurref09_Lex.l1 k src xs (i : Int)) (fun k => by simp only [testamurref09_Lex.j1, if_true]) ?_
          refine reflex_l1 src hs xs _ (c :: r) i hi hd ?_
          rw [takeWhile_cons_true (by rw [hcm.1]; rfl), List.length_cons, Nat.add_comm _ 1, ← hd, List.drop_drop]
          exact ih (src.size - (i + (1 + (r.takeWhile (fun b => b != 10)).length))) (by omega) _ xs (by omega) rfl (by omega)
        · rw [decide_eq_false hcm]
          by_cases h2 : clsB c = 2
          · -- a name
            have hpart : partB c = true := by unfold partB; rw [hcl, h2]; rfl
            have htl := takeWhile_le partB r
            have hex : (src.extract i (i + (1 + (r.takeWhile partB).length))).data.toList = c :: r.takeWhile partB := by
              rw [extract_list, hd, Nat.add_comm 1, List.take_succ_cons, take_takeWhile]
            have hexs : (src.extract i (i + (1 + (r.takeWhile partB).length))).size ≤ 1000000 := by
              rw [← data_length, hex, List.length_cons]; omega
            refine Ev.step (f := fun k => testamurref09_Lex.l2 k src xs (i : Int) (i : Int)) (fun k => ?_) ?_
            · simp only [testamurref09_Lex.j1]
              rw [if_neg (by simp), if_pos (by omega), if_pos (by omega), hb, letter_is, Option.bind_some, h2]
              rfl
            · refine reflex_l2 src hs xs (by omega) i _ (c :: r) i (by omega) hi hd ?_
              rw [takeWhile_cons_true hpart, List.length_cons, Nat.add_comm _ 1]
              have hnm := refname_is _ hexs
              rw [hex] at hnm
              refine Ev.bind hnm ?_
              by_cases hv : nameL (c :: r.takeWhile partB) = true
              · have hp : piece (c :: r) = some (.tok 1 (c :: r.takeWhile partB) 0, 1 + (r.takeWhile partB).length) := by
                  simp only [piece]
                  rw [if_neg h1, if_pos h2, if_pos hv]
                rw [scan_some hp, hv]
                show Ev _ (fin xs (con _ _))
                rw [fin_con, ← hd, List.drop_drop]
                have e : src.extract i (i + (1 + (r.takeWhile partB).length)) = ⟨(c :: r.takeWhile partB).toArray⟩ := bytes_eq (by rw [hex])
                refine Ev.congr (fun k => if_pos rfl) ?_
                rw [e]
                exact ih (src.size - (i + (1 + (r.takeWhile partB).length))) (by omega) _ _ (by omega) rfl (by simp; omega)
              · have hp : piece (c :: r) = none := by
                  simp only [piece]
                  rw [if_neg h1, if_pos h2, if_neg hv]
                rw [scan_none hp]
                exact Ev.congr (fun k => if_neg hv) (Ev.now _)
          · by_cases h3 : clsB c = 3
            · -- a number
              have hdig : digB c = true := by unfold digB; rw [h3]; rfl
              have htl := takeWhile_le digB r
              have hex : (src.extract i (i + (1 + (r.takeWhile digB).length))).data.toList = c :: r.takeWhile digB := by
                rw [extract_list, hd, Nat.add_comm 1, List.take_succ_cons, take_takeWhile]
              have hsz : (src.extract i (i + (1 + (r.takeWhile digB).length))).size = 1 + (r.takeWhile digB).length := by
                rw [← data_length, hex, List.length_cons]; omega
              refine Ev.step (f := fun k => testamurref09_Lex.l3 k src xs (i : Int) (i : Int)) (fun k => ?_) ?_
              · simp only [testamurref09_Lex.j1]
                rw [if_neg (by simp), if_pos (by omega), if_pos (by omega), hb, letter_is, Option.bind_some, beq_eq_false_iff_ne.2 h2, if_neg (by simp), figure_is, Option.bind_some, hdig]
                rfl
              · refine reflex_l3 src hs xs (by omega) i _ (c :: r) i (by omega) hi hd ?_
                rw [takeWhile_cons_true hdig, List.length_cons, Nat.add_comm _ 1]
                have hnm := refnumber_is _ (by rw [hsz]; omega) (by rw [hsz]; omega) (by
                  rw [hex]
                  intro b hb'
                  rcases List.mem_cons.1 hb' with rfl | hb'
                  · exact hdig
                  · exact List.all_eq_true.1 List.all_takeWhile b hb')
                rw [hex] at hnm
                refine Ev.bind hnm ?_
                cases hv : numL (c :: r.takeWhile digB) with
                | some v =>
                  have hp : piece (c :: r) = some (.tok 2 [] v, 1 + (r.takeWhile digB).length) := by
                    simp only [piece]
                    rw [if_neg h1, if_neg h2, if_pos h3, hv]
                  rw [scan_some hp]
                  show Ev _ (fin xs (con _ _))
                  rw [fin_con, ← hd, List.drop_drop]
                  unfold numL at hv
                  split at hv
                  · rename_i hcv
                    injection hv with hv
                    subst hv
                    rw [if_pos hcv.2, hcv.1]
                    refine Ev.congr (fun k => if_pos rfl) ?_
                    exact ih (src.size - (i + (1 + (r.takeWhile digB).length))) (by omega) _ _ (by omega) rfl (by simp; omega)
                  · cases hv
                | none =>
                  have hp : piece (c :: r) = none := by
                    simp only [piece]
                    rw [if_neg h1, if_neg h2, if_pos h3, hv]
                  rw [scan_none hp]
                  unfold numL at hv
                  split at hv
                  · cases hv
                  · rename_i hcv
                    refine Ev.congr (fun k => if_neg ?_) (Ev.now _)
                    intro hh
                    split at hh
                    · rename_i hle
                      exact hcv ⟨hh, hle⟩
                    · cases hh
            · -- a sign, or none
              have hsg := sign_is c
              refine Ev.step (f := fun k => (testamurref09_Sign.f k (c.toNat : Int)).bind fun t => if t = true then testamurref09_Lex.l0 k src (xs ++ [⟨3, src.extract i (i + 1), 0, (i : Int)⟩]) ((i + 1 : Nat) : Int) else some ([], (i : Int), 90)) (fun k => ?_) ?_
              · simp only [testamurref09_Lex.j1]
                rw [if_neg (by simp), if_pos (by omega), if_pos (by omega), hb, letter_is, Option.bind_some, beq_eq_false_iff_ne.2 h2, if_neg (by simp), figure_is, Option.bind_some,
                  show digB c = false from beq_eq_false_iff_ne.2 h3, if_neg (by simp), wrap_nat i (by omega), if_pos (by omega), if_pos (by omega), if_pos (by omega), if_pos (by omega)]
                rfl
              · refine Ev.bind hsg ?_
                by_cases h4 : clsB c = 4
                · have hp : piece (c :: r) = some (.tok 3 [c] 0, 1) := by
                    simp only [piece]
                    rw [if_neg h1, if_neg h2, if_neg h3, if_pos h4, if_neg hcm]
                  rw [scan_some hp, h4]
                  show Ev _ (fin xs (con _ _))
                  have e : src.extract i (i + 1) = ⟨[c].toArray⟩ := bytes_eq (by rw [extract_list, hd]; rfl)
                  rw [fin_con, ← hd, List.drop_drop, e]
                  refine Ev.congr (fun k => if_pos rfl) ?_
                  exact ih (src.size - (i + 1)) (by omega) _ _ (by omega) rfl (by simp; omega)
                · have hp : piece (c :: r) = none := by
                    simp only [piece]
                    rw [if_neg h1, if_neg h2, if_neg h3, if_neg h4]
                  rw [scan_none hp, beq_eq_false_iff_ne.2 h4]
                  exact Ev.congr (fun k => if_neg (by simp)) (Ev.now _)
theorem reflex_is (src : ByteArray) : Ev (fun k => testamurref09_Lex.f k src) (lexF src) := by
  unfold testamurref09_Lex.f
  by_cases h : src.size ≤ 65536
  · rw [lexF_scan src h]
    have := reflex_l0 src h _ 0 [] (by omega) rfl (by simp)
    rw [List.drop_zero] at this
    exact Ev.congr (fun k => if_neg (by omega)) this
  · unfold lexF
    rw [if_pos (by omega)]
    exact Ev.congr (fun k => if_pos (by omega)) (Ev.now _)
end Go.Proofs.YtpgjacoinldfhaaDoor.Pl
end
section
namespace Go.Proofs.YtpgjacoinldfhaaDoor.Pl
open Go Go.Lib Go.RowKit Go.Proofs.YtpgjacoinldfhaaDoor.Q Go.Proofs.YtpgjacoinldfhaaDoorW.PrintWords Go.Proofs.YtpgjacoinldfhaaDoorW.PrintLast
set_option linter.unusedVariables false
/-- The text of one token. -/
def wordB (x : S35) : ByteArray := if x.f0 = 2 then ⟨(decDigits x.f2.toNat).toArray⟩ else x.f1
def wordL (x : S35) : List UInt8 := (wordB x).data.toList
def textF (l : List S35) : ByteArray × Int := if l.all validB = true then (⟨(join (l.map wordL) [32]).toArray⟩, 0) else (⟨#[]⟩, 90)
theorem valid_cases {x : S35} (h : validB x = true) :
    (x.f0 = 1 ∧ nameL x.f1.data.toList = true ∧ x.f2 = 0) ∨ (x.f0 = 2 ∧ x.f1 = ⟨#[]⟩ ∧ 0 ≤ x.f2 ∧ x.f2 ≤ 1099511627776) ∨ (x.f0 = 3 ∧ x.f1.size = 1 ∧ x.f1.data.toList.all (fun c => clsB c == 4) = true ∧ x.f2 = 0) := by
  unfold validB at h
  by_cases h1 : x.f0 = 1
  · rw [if_pos h1, Bool.and_eq_true] at h
    exact .inl ⟨h1, h.1, by simpa using h.2⟩
  · rw [if_neg h1] at h
    by_cases h2 : x.f0 = 2
    · rw [if_pos h2] at h
      have h := of_decide_eq_true h
      refine .inr (.inl ⟨h2, ?_, h.2.1, h.2.2⟩)
      apply bytes_eq
      have := data_length x.f1
      rw [h.1] at this
      exact List.length_eq_zero_iff.1 this
    · rw [if_neg h2] at h
      by_cases h3 : x.f0 = 3
      · rw [if_pos h3, Bool.and_eq_true, Bool.and_eq_true] at h
        exact .inr (.inr ⟨h3, of_decide_eq_true h.1.1, h.1.2, by simpa using h.2⟩)
      · rw [if_neg h3] at h
        cases h
theorem name_length {l : List UInt8} (h : nameL l = true) : 0 < l.length ∧ l.length ≤ 32 := by
  unfold nameL at h
  rw [Bool.and_eq_true, Bool.and_eq_true] at h
  exact of_decide_eq_true h.1.1
theorem dec_len (u : Nat) (h : u ≤ 1099511627776) : (decDigits u).length ≤ 32 := by
  have := itoa_length_le (u : Int) (by omega) (by omega)
  rw [itoa_nat] at this
  omega
theorem word_len {x : S35} (h : validB x = true) : (wordB x).size ≤ 32 := by
  unfold wordB
  rcases valid_cases h with ⟨h1, h2, _⟩ | ⟨h1, h2, h3, h4⟩ | ⟨h1, h2, _, _⟩
  · rw [if_neg (by omega), ← data_length]
    exact (name_length h2).2
  · rw [if_pos h1, ← data_length]
    exact dec_len _ (by omega)
  · rw [if_neg (by omega)]
    omega
theorem valid_ev (x : S35) : Ev (fun k => lex_valid.f k x.f0 x.f1 x.f2 x.f3) (validB x) := Ev.of (lex_valid.mono _ _ _ _) (valid_some x)
theorem itoa_word {x : S35} (h : validB x = true) (h2 : x.f0 = 2) : strconv_Itoa.f x.f2 = some (wordB x) := by
  rcases valid_cases h with ⟨h1, _⟩ | ⟨h1, _, h3, h4⟩ | ⟨h1, _⟩
  · omega
  · unfold strconv_Itoa.f wordB
    rw [if_pos ⟨by omega, by omega⟩, if_pos h2]
    obtain ⟨u, hu⟩ : ∃ u : Nat, x.f2 = (u : Int) := ⟨x.f2.toNat, by omega⟩
    rw [hu, itoa_nat, Int.toNat_natCast]
  · omega
theorem lens_le {l : List (List UInt8)} (h : ∀ w ∈ l, w.length ≤ 32) : lens l ≤ 32 * l.length := by
  induction l with
  | nil => simp [lens]
  | cons a r ih =>
    have h1 := h a (by simp)
    have h2 := ih (fun w hw => h w (by simp [hw]))
    unfold lens at *
    simp only [List.map_cons, List.sum_cons, List.length_cons]
    omega
theorem join_len {l : List (List UInt8)} (h : ∀ w ∈ l, w.length ≤ 32) : (join l [32]).length ≤ 33 * l.length := by
  cases l with
  | nil => simp [join_nil]
  | cons a r =>
    rw [join_cons, List.length_append, joinTail_length]
    have h1 := h a (by simp)
    have h2 := lens_le (l := r) (fun w hw => h w (by simp [hw]))
    simp only [List.length_cons, List.length_nil]
    omega
theorem set_at {α : Type} (a : List α) (e t : α) (m i : Nat) (h : a.length = i) : (a ++ List.replicate (m + 1) e).set i t = a ++ [t] ++ List.replicate m e := by
  subst h
  rw [List.replicate_succ, List.set_append_right _ _ (Nat.le_refl _), Nat.sub_self, List.set_cons_zero]
  simp
theorem lextext_loop (l : List S35) (hl : l.length ≤ 1000000) (m : Nat) : ∀ i : Nat, l.length - i = m → i ≤ l.length → (∀ x ∈ l.take i, validB x = true) →
    Ev (fun k => lex_Text.l0 k ((l.take i).map wordB ++ List.replicate m (⟨#[]⟩ : ByteArray)) l (l.length : Int) (i : Int)) (textF l) := by
  induction m with
  | zero =>
    intro i h1 h2 h3
    rw [List.take_of_length_le (by omega)] at h3 ⊢
    have hall : l.all validB = true := List.all_eq_true.2 h3
    unfold textF
    rw [if_pos hall]
    have hlen : ∀ w ∈ l.map wordL, w.length ≤ 32 := by
      intro w hw
      obtain ⟨x, hx, rfl⟩ := List.mem_map.1 hw
      have := word_len (h3 x hx)
      rw [← data_length] at this
      exact this
    have hj := join_len hlen
    rw [List.length_map] at hj
    have hmm : (l.map wordB).map (fun b => b.data.toList) = l.map wordL := by rw [List.map_map]; rfl
    refine Ev.step (f := fun _ => some (⟨(join (l.map wordL) [32]).toArray⟩, 0)) (fun k => ?_) (Ev.now _)
    simp only [lex_Text.l0, List.replicate_zero, List.append_nil]
    rw [if_neg (by omega)]
    unfold strings_Join.f
    rw [if_pos ⟨by rw [List.length_map]; omega, by rw [hmm]; exact Nat.le_trans hj (by omega)⟩, hmm, Option.bind_some]
  | succ m ih =>
    intro i h1 h2 h3
    have hx := drop_get l i (by omega)
    obtain ⟨ex, _, _⟩ := rd_drop l i _ _ hx
    have htk : l.take (i + 1) = l.take i ++ [l[i]'(by omega)] := List.take_succ_eq_append_getElem (by omega)
    generalize hxx : l[i]'(by omega) = x at *
    have hmem : x ∈ l := by rw [← hxx]; exact List.getElem_mem _
    have hw : ∀ t, (((l.take i).map wordB ++ List.replicate (m + 1) (⟨#[]⟩ : ByteArray)).set ((i : Int).toNat) t) = (l.take i).map wordB ++ [t] ++ List.replicate m ⟨#[]⟩ := fun t => by
      rw [Int.toNat_natCast]
      exact set_at _ _ _ _ _ (by rw [List.length_map, List.length_take]; omega)
    refine Ev.step (f := fun k => (lex_valid.f k x.f0 x.f1 x.f2 x.f3).bind fun t => if t = true then (if x.f0 = 2 then (strconv_Itoa.f x.f2).bind fun u => lex_Text.l0 k ((l.take i).map wordB ++ [u] ++ List.replicate m ⟨#[]⟩) l (l.length : Int) ((i + 1 : Nat) : Int) else lex_Text.l0 k ((l.take i).map wordB ++ [x.f1] ++ List.replicate m ⟨#[]⟩) l (l.length : Int) ((i + 1 : Nat) : Int)) else some (⟨#[]⟩, 90)) (fun k => ?_) ?_
    · simp only [lex_Text.l0]
      rw [if_pos (by omega), if_pos (by omega), if_pos (by omega), ex, wrap_nat i (by omega)]
      simp only [hw]
      simp only [if_pos (show (i : Int) < (((l.take i).map wordB ++ List.replicate (m + 1) (⟨#[]⟩ : ByteArray)).length : Int) by
        rw [List.length_append, List.length_map, List.length_take, List.length_replicate]; omega)]
    · refine Ev.bind (valid_ev x) ?_
      by_cases hv : validB x = true
      · have h3' : ∀ y ∈ l.take (i + 1), validB y = true := by
          intro y hy
          rw [htk] at hy
          rcases List.mem_append.1 hy with hy | hy
          · exact h3 y hy
          · rw [List.mem_singleton.1 hy]; exact hv
        have hih := ih (i + 1) (by omega) (by omega) h3'
        rw [htk, List.map_append, List.map_singleton] at hih
        refine Ev.congr (fun k => if_pos hv) ?_
        by_cases h2' : x.f0 = 2
        · refine Ev.congr (fun k => ?_) hih
          rw [if_pos h2', itoa_word hv h2', Option.bind_some]
        · refine Ev.congr (fun k => ?_) hih
          rw [if_neg h2']
          unfold wordB
          rw [if_neg h2']
      · have : textF l = (⟨#[]⟩, 90) := by
          unfold textF
          rw [if_neg]
          intro h
          exact hv (List.all_eq_true.1 h x hmem)
        rw [this]
        exact Ev.congr (fun k => if_neg hv) (Ev.now _)
theorem lextext_is (l : List S35) (hl : l.length ≤ 1000000) : Ev (fun k => lex_Text.f k l) (textF l) := by
  have := lextext_loop l hl l.length 0 (by omega) (by omega) (by simp)
  unfold lex_Text.f
  refine Ev.congr (fun k => ?_) this
  rw [if_pos (by omega), Int.toNat_natCast, if_pos (by omega)]
  rfl
/-! ### The document's -/
theorem digit_byte (n : Nat) : strOfNums ([(wrap64 (48 + (Int.tmod (n : Int) 10))) % 256] : List Int) = ⟨#[UInt8.ofNat (48 + n % 10)]⟩ := by
  have h1 : Int.tmod (n : Int) 10 = ((n % 10 : Nat) : Int) := by
    rw [Int.tmod_eq_emod_of_nonneg (by omega)]
    omega
  rw [h1, Q.wrap_small (by omega) (by omega)]
  have h2 : ((48 : Int) + ((n % 10 : Nat) : Int)) % 256 = ((48 + n % 10 : Nat) : Int) := by omega
  rw [h2]
  show (⟨#[UInt8.ofNat ((48 + n % 10 : Nat) : Int).toNat]⟩ : ByteArray) = _
  rw [Int.toNat_natCast]
theorem tdiv_nat (n : Nat) (h : n ≤ 4611686018427387904) : wrap64 (Int.tdiv (n : Int) 10) = ((n / 10 : Nat) : Int) := by
  rw [Int.tdiv_eq_ediv_of_nonneg (by omega), Q.wrap_small (by omega) (by omega)]
  omega
theorem dec_step (n : Nat) (h : ¬ n < 10) : decDigits n = decDigits (n / 10) ++ [UInt8.ofNat (48 + n % 10)] := by rw [decDigits, dif_neg h]
theorem dec_low (n : Nat) (h : n < 10) : decDigits n = [UInt8.ofNat (48 + n % 10)] := by rw [decDigits, dif_pos h, Nat.mod_eq_of_lt h]
theorem refdec_loop (n : Nat) : ∀ s : ByteArray, s.size + n ≤ 4611686018427387904 →
    Ev (fun k => testamurref09_Decimal.l0 k (n : Int) s) (if 10 ≤ n then ⟨(decDigits (n / 10) ++ s.data.toList).toArray⟩ else s) := by
  induction n using Nat.strongRecOn with
  | _ n ih =>
    intro s hs
    by_cases h : 10 ≤ n
    · rw [if_pos h]
      have e := digit_byte (n / 10)
      refine Ev.step (f := fun k => testamurref09_Decimal.l0 k ((n / 10 : Nat) : Int) (⟨#[UInt8.ofNat (48 + n / 10 % 10)]⟩ ++ s)) (fun k => ?_) ?_
      · simp only [testamurref09_Decimal.l0]
        rw [if_pos (by omega), tdiv_nat n (by omega), Option.bind_some, e, if_pos (by show 1 + s.size ≤ _; omega)]
      · have hih := ih (n / 10) (by omega) (⟨#[UInt8.ofNat (48 + n / 10 % 10)]⟩ ++ s) (by rw [ByteArray.size_append]; show 1 + s.size + _ ≤ _; omega)
        have e2 : (if 10 ≤ n / 10 then (⟨(decDigits (n / 10 / 10) ++ ((⟨#[UInt8.ofNat (48 + n / 10 % 10)]⟩ : ByteArray) ++ s).data.toList).toArray⟩ : ByteArray) else ⟨#[UInt8.ofNat (48 + n / 10 % 10)]⟩ ++ s) = ⟨(decDigits (n / 10) ++ s.data.toList).toArray⟩ := by
          apply bytes_eq
          by_cases h2 : 10 ≤ n / 10
          · rw [if_pos h2, dec_step (n / 10) (by omega)]
            simp [ByteArray.data_append]
          · rw [if_neg h2, dec_low (n / 10) (by omega)]
            simp [ByteArray.data_append]
        rw [e2] at hih
        exact hih
    · rw [if_neg h]
      refine Ev.step (f := fun _ => some s) (fun k => ?_) (Ev.now _)
      simp only [testamurref09_Decimal.l0]
      rw [if_neg (by omega)]
theorem refdec_is (n : Nat) (h : n ≤ 1099511627776) : Ev (fun k => testamurref09_Decimal.f k (n : Int)) ⟨(decDigits n).toArray⟩ := by
  unfold testamurref09_Decimal.f
  rw [digit_byte n]
  have := refdec_loop n ⟨#[UInt8.ofNat (48 + n % 10)]⟩ (by show 1 + n ≤ _; omega)
  have e : (if 10 ≤ n then (⟨(decDigits (n / 10) ++ (⟨#[UInt8.ofNat (48 + n % 10)]⟩ : ByteArray).data.toList).toArray⟩ : ByteArray) else ⟨#[UInt8.ofNat (48 + n % 10)]⟩) = ⟨(decDigits n).toArray⟩ := by
    apply bytes_eq
    by_cases h2 : 10 ≤ n
    · rw [if_pos h2, dec_step n (by omega)]
    · rw [if_neg h2, dec_low n (by omega)]
  rw [e] at this
  exact this
theorem toList_empty (s : ByteArray) : s.toList = ([] : List UInt8) ↔ s.size = 0 := toList_nil s
theorem refvalid_is (x : S35) (hs : x.f1.size ≤ 1000000) : Ev (fun k => testamurref09_Valid.f k x.f0 x.f1 x.f2 x.f3) (validB x) := by
  unfold testamurref09_Valid.f validB
  by_cases h1 : x.f0 = 1
  · rw [if_pos h1]
    refine Ev.congr (fun k => if_pos h1) (Ev.bind (refname_is x.f1 hs) ?_)
    cases hn : nameL x.f1.data.toList with
    | true => simpa using Ev.now _
    | false => simpa using Ev.now _
  · rw [if_neg h1]
    by_cases h2 : x.f0 = 2
    · rw [if_pos h2]
      refine Ev.congr (f := fun _ => some (decide (x.f1.size = 0 ∧ 0 ≤ x.f2 ∧ x.f2 ≤ 1099511627776))) (fun k => ?_) (Ev.now _)
      rw [if_neg h1, if_pos h2]
      by_cases h0 : x.f1.size = 0
      · rw [if_pos ((toList_empty _).2 h0)]
        by_cases h3 : x.f2 ≥ 0
        · rw [if_pos h3]
          congr 1
          by_cases h4 : x.f2 ≤ 1099511627776
          · rw [decide_eq_true h4, decide_eq_true ⟨h0, h3, h4⟩]
          · rw [decide_eq_false h4, decide_eq_false (fun h => h4 h.2.2)]
        · rw [if_neg h3, decide_eq_false (fun h => h3 h.2.1)]
      · rw [if_neg (fun h => h0 ((toList_empty _).1 h)), decide_eq_false (fun h => h0 h.1)]
    · rw [if_neg h2]
      by_cases h3 : x.f0 = 3
      · rw [if_pos h3]
        by_cases hz : x.f1.size = 1
        · obtain ⟨c, hc⟩ : ∃ c, x.f1.data.toList = [c] := List.length_eq_one_iff.1 (by rw [data_length, hz])
          obtain ⟨hb, _, _⟩ := bt_list x.f1 0 c [] (by rw [List.drop_zero]; exact hc)
          have hb0 : bt x.f1 0 = (c.toNat : Int) := hb
          refine Ev.congr (f := fun k => (testamurref09_Sign.f k (c.toNat : Int)).bind fun t => if t = true then some (x.f2 == 0) else some false) (fun k => ?_) (Ev.bind (sign_is c) ?_)
          · rw [if_neg h1, if_neg h2, if_pos h3, if_pos (by omega), if_pos (by omega), hb0]
          · rw [decide_eq_true hz, hc, Bool.true_and, List.all_cons, List.all_nil, Bool.and_true]
            show Ev _ ((clsB c == 4) && _)
            cases hq : (clsB c == 4) with
            | true => simpa using Ev.now _
            | false => simpa using Ev.now _
        · rw [decide_eq_false hz, Bool.false_and, Bool.false_and]
          refine Ev.congr (f := fun _ => some false) (fun k => ?_) (Ev.now _)
          rw [if_neg h1, if_neg h2, if_pos h3, if_neg (by omega)]
      · rw [if_neg h3]
        refine Ev.congr (f := fun _ => some false) (fun k => ?_) (Ev.now _)
        rw [if_neg h1, if_neg h2, if_neg h3]
theorem join_snoc (l : List (List UInt8)) (w : List UInt8) (h : l ≠ []) : join (l ++ [w]) [32] = join l [32] ++ [32] ++ w := by
  obtain ⟨a, r, rfl⟩ := List.exists_cons_of_ne_nil h
  rw [List.cons_append, join_cons, join_cons]
  simp [joinTail]
theorem reftext_loop (l : List S35) (hl : l.length ≤ 1000000) (hz : ∀ x ∈ l, x.f1.size ≤ 1000000) (m : Nat) : ∀ i : Nat, l.length - i = m → i ≤ l.length → (∀ x ∈ l.take i, validB x = true) →
    Ev (fun k => testamurref09_Text.l0 k l ⟨(join ((l.take i).map wordL) [32]).toArray⟩ (i : Int)) (textF l) := by
  induction m with
  | zero =>
    intro i h1 h2 h3
    rw [List.take_of_length_le (by omega)] at h3 ⊢
    unfold textF
    rw [if_pos (List.all_eq_true.2 h3)]
    refine Ev.step (f := fun _ => some (⟨(join (l.map wordL) [32]).toArray⟩, 0)) (fun k => ?_) (Ev.now _)
    simp only [testamurref09_Text.l0]
    rw [if_neg (by omega)]
  | succ m ih =>
    intro i h1 h2 h3
    have hx := drop_get l i (by omega)
    obtain ⟨ex, _, _⟩ := rd_drop l i _ _ hx
    have htk : l.take (i + 1) = l.take i ++ [l[i]'(by omega)] := List.take_succ_eq_append_getElem (by omega)
    generalize hxx : l[i]'(by omega) = x at *
    have hmem : x ∈ l := by rw [← hxx]; exact List.getElem_mem _
    have hlen : ∀ w ∈ (l.take i).map wordL, w.length ≤ 32 := by
      intro w hw
      obtain ⟨y, hy, rfl⟩ := List.mem_map.1 hw
      have := word_len (h3 y hy)
      rw [← data_length] at this
      exact this
    have hj := join_len hlen
    rw [List.length_map, List.length_take] at hj
    generalize hS : join ((l.take i).map wordL) [32] = S at *
    have hSs : (⟨S.toArray⟩ : ByteArray).size = S.length := by show S.toArray.size = _; simp
    have hstep : ∀ k, testamurref09_Text.l0 (k + 1) l ⟨S.toArray⟩ (i : Int) = (testamurref09_Valid.f k x.f0 x.f1 x.f2 x.f3).bind fun t => if t = true then
        (if x.f0 = 2 then (testamurref09_Decimal.f k x.f2).bind fun u => if (if i = 0 then (⟨S.toArray⟩ : ByteArray) else ⟨S.toArray⟩ ++ ⟨#[32]⟩).size + u.size ≤ 9223372036854775807 then testamurref09_Text.l0 k l ((if i = 0 then (⟨S.toArray⟩ : ByteArray) else ⟨S.toArray⟩ ++ ⟨#[32]⟩) ++ u) ((i + 1 : Nat) : Int) else none
         else if (if i = 0 then (⟨S.toArray⟩ : ByteArray) else ⟨S.toArray⟩ ++ ⟨#[32]⟩).size + x.f1.size ≤ 9223372036854775807 then testamurref09_Text.l0 k l ((if i = 0 then (⟨S.toArray⟩ : ByteArray) else ⟨S.toArray⟩ ++ ⟨#[32]⟩) ++ x.f1) ((i + 1 : Nat) : Int) else none) else some (⟨#[]⟩, 90) := by
      intro k
      simp only [testamurref09_Text.l0]
      rw [if_pos (by omega), if_pos (by omega), ex, wrap_nat i (by omega)]
      by_cases h0 : i = 0
      · simp only [if_pos h0]
        rw [if_neg (by omega)]
      · simp only [if_neg h0]
        rw [if_pos (by omega), hSs]
        simp only [if_pos (show S.length + 1 ≤ 9223372036854775807 by omega)]
    refine Ev.step hstep (Ev.bind (refvalid_is x (hz x hmem)) ?_)
    by_cases hv : validB x = true
    · have h3' : ∀ y ∈ l.take (i + 1), validB y = true := by
        intro y hy
        rw [htk] at hy
        rcases List.mem_append.1 hy with hy | hy
        · exact h3 y hy
        · rw [List.mem_singleton.1 hy]; exact hv
      have hih := ih (i + 1) (by omega) (by omega) h3'
      have hwl := word_len hv
      have hbytes : (⟨(join ((l.take (i + 1)).map wordL) [32]).toArray⟩ : ByteArray) = (if i = 0 then (⟨S.toArray⟩ : ByteArray) else ⟨S.toArray⟩ ++ ⟨#[32]⟩) ++ wordB x := by
        apply bytes_eq
        rw [htk, List.map_append, List.map_singleton]
        by_cases h0 : i = 0
        · subst h0
          rw [if_pos rfl, ← hS]
          simp [join_one, join_nil, ByteArray.data_append, wordL]
        · have hne : (l.take i).map wordL ≠ [] := by
            intro e
            have := congrArg List.length e
            rw [List.length_map, List.length_take, List.length_nil] at this
            omega
          rw [if_neg h0, join_snoc _ _ hne, hS]
          simp [ByteArray.data_append, wordL]
      have hss : (if i = 0 then (⟨S.toArray⟩ : ByteArray) else ⟨S.toArray⟩ ++ ⟨#[32]⟩).size ≤ S.length + 1 := by
        split
        · rw [hSs]; omega
        · rw [ByteArray.size_append, hSs]; exact Nat.le_refl _
      rw [hbytes] at hih
      refine Ev.congr (fun k => if_pos hv) ?_
      by_cases h2' : x.f0 = 2
      · refine Ev.congr (fun k => if_pos h2') ?_
        have hdec : Ev (fun k => testamurref09_Decimal.f k x.f2) (wordB x) := by
          rcases valid_cases hv with ⟨q, _⟩ | ⟨_, _, q3, q4⟩ | ⟨q, _⟩
          · omega
          · have := refdec_is x.f2.toNat (by omega)
            rw [Int.toNat_of_nonneg q3] at this
            unfold wordB
            rw [if_pos h2']
            exact this
          · omega
        refine Ev.bind hdec ?_
        exact Ev.congr (fun k => if_pos (Nat.le_trans (Nat.add_le_add hss hwl) (by omega))) hih
      · have hw : wordB x = x.f1 := by unfold wordB; rw [if_neg h2']
        rw [hw] at hih hwl
        refine Ev.congr (fun k => if_neg h2') ?_
        exact Ev.congr (fun k => if_pos (Nat.le_trans (Nat.add_le_add hss hwl) (by omega))) hih
    · have : textF l = (⟨#[]⟩, 90) := by
        unfold textF
        rw [if_neg]
        intro h
        exact hv (List.all_eq_true.1 h x hmem)
      rw [this]
      exact Ev.congr (fun k => if_neg hv) (Ev.now _)
theorem reftext_is (l : List S35) (hl : l.length ≤ 1000000) (hz : ∀ x ∈ l, x.f1.size ≤ 1000000) : Ev (fun k => testamurref09_Text.f k l) (textF l) := by
  have := reftext_loop l hl hz l.length 0 (by omega) (by omega) (by simp)
  unfold testamurref09_Text.f
  exact this
/-- Few. -/
def sizes (l : List S35) : Nat := (l.map fun x => x.f1.size).sum
theorem reffew_loop (l : List S35) (hl : l.length ≤ 4000000000000) (m : Nat) : ∀ (i : Nat) (n : Int), l.length - i = m → i ≤ l.length →
    ∃ b, Ev (fun k => testamurref09_Few.l0 k l n (i : Int)) b ∧ (b = true → l.length ≤ 200 ∧ (0 ≤ n → n + (sizes (l.drop i) : Int) < 9223372036854775808 → n + (sizes (l.drop i) : Int) ≤ 2000)) := by
  induction m with
  | zero =>
    intro i n h1 h2
    by_cases h200 : l.length ≤ 200
    · refine ⟨decide (n ≤ 2000), Ev.step (f := fun _ => some (decide (n ≤ 2000))) (fun k => ?_) (Ev.now _), fun hb => ⟨h200, fun _ _ => ?_⟩⟩
      · simp only [testamurref09_Few.l0]
        rw [if_neg (by omega), if_pos (by omega)]
      · rw [List.drop_eq_nil_of_le (by omega)]
        have := of_decide_eq_true hb
        simpa [sizes] using this
    · refine ⟨false, Ev.step (f := fun _ => some false) (fun k => ?_) (Ev.now _), fun hb => by cases hb⟩
      simp only [testamurref09_Few.l0]
      rw [if_neg (by omega), if_neg (by omega)]
  | succ m ih =>
    intro i n h1 h2
    have hx := drop_get l i (by omega)
    obtain ⟨ex, _, _⟩ := rd_drop l i _ _ hx
    rw [hx]
    generalize l[i]'(by omega) = x at *
    obtain ⟨b, he, hb⟩ := ih (i + 1) (wrap64 (n + (x.f1.size : Int))) (by omega) (by omega)
    refine ⟨b, Ev.step (f := fun k => testamurref09_Few.l0 k l (wrap64 (n + (x.f1.size : Int))) ((i + 1 : Nat) : Int)) (fun k => ?_) he, fun ht => ⟨(hb ht).1, fun h0 hlt => ?_⟩⟩
    · simp only [testamurref09_Few.l0]
      rw [if_pos (by omega), if_pos (by omega), ex, wrap_nat i (by omega)]
    · have hs : sizes (x :: l.drop (i + 1)) = x.f1.size + sizes (l.drop (i + 1)) := by simp [sizes]
      rw [hs] at hlt ⊢
      have hw : wrap64 (n + (x.f1.size : Int)) = n + (x.f1.size : Int) := Q.wrap_small (by omega) (by omega)
      have := (hb ht).2
      rw [hw] at this
      have := this (by omega) (by omega)
      omega
theorem sizes_le (l : List S35) (M : Nat) (h : ∀ x ∈ l, x.f1.size ≤ M) : sizes l ≤ l.length * M := by
  induction l with
  | nil => simp [sizes]
  | cons a r ih =>
    have h1 := h a (by simp)
    have h2 := ih (fun x hx => h x (by simp [hx]))
    have hs : sizes (a :: r) = a.f1.size + sizes r := by simp [sizes]
    rw [hs, List.length_cons, Nat.add_mul, Nat.one_mul]
    omega
theorem le_sizes (l : List S35) (x : S35) (h : x ∈ l) : x.f1.size ≤ sizes l := by
  induction l with
  | nil => cases h
  | cons a r ih =>
    have hs : sizes (a :: r) = a.f1.size + sizes r := by simp [sizes]
    rcases List.mem_cons.1 h with rfl | h
    · omega
    · have := ih h; omega
/-- Few tokens are few, and short. -/
theorem reffew_is (l : List S35) (hl : l.length ≤ 4000000000000) (hz : ∀ x ∈ l, x.f1.size ≤ 140737488355328) :
    ∃ b, Ev (fun k => testamurref09_Few.f k l) b ∧ (b = true → l.length ≤ 200 ∧ sizes l ≤ 2000) := by
  obtain ⟨b, he, hb⟩ := reffew_loop l hl l.length 0 0 (by omega) (by omega)
  refine ⟨b, he, fun ht => ?_⟩
  obtain ⟨h1, h2⟩ := hb ht
  have hm := sizes_le l _ hz
  have hm2 : l.length * 140737488355328 ≤ 200 * 140737488355328 := Nat.mul_le_mul_right _ h1
  rw [List.drop_zero] at h2
  have := h2 (by omega) (by omega)
  exact ⟨h1, by omega⟩
end Go.Proofs.YtpgjacoinldfhaaDoor.Pl
end
section
namespace Go.Proofs.YtpgjacoinldfhaaDoor.Pl
open Go Go.Lib Go.RowKit Go.Proofs.YtpgjacoinldfhaaDoor.Q Go.Proofs.YtpgjacoinldfhaaDoorW.PrintWords Go.Proofs.YtpgjacoinldfhaaDoorW.PrintLast
set_option linter.unusedVariables false
theorem ex1 : lex_Lex.f (⟨#[101, 97, 114, 110, 32, 51, 48, 59]⟩ : ByteArray) = some ([⟨1, ⟨#[101, 97, 114, 110]⟩, 0, 0⟩, ⟨2, ⟨#[]⟩, 30, 5⟩, ⟨3, ⟨#[59]⟩, 0, 7⟩], 0, 0) := by
  show some (lexF _) = _
  rw [lexF_scan _ (by decide)]
  kernel_rfl
theorem ex2 : lex_Lex.f (⟨#[48, 48, 55]⟩ : ByteArray) = some ([], 0, 90) := by
  show some (lexF _) = _
  rw [lexF_scan _ (by decide)]
  kernel_rfl
theorem ex3 : lex_Lex.f (⟨#[49, 48, 57, 57, 53, 49, 49, 54, 50, 55, 55, 55, 54]⟩ : ByteArray) = some ([⟨2, ⟨#[]⟩, 1099511627776, 0⟩], 0, 0) := by
  show some (lexF _) = _
  rw [lexF_scan _ (by decide)]
  kernel_rfl
theorem ex4 : lex_Lex.f (⟨#[97, 32, 47, 47, 32, 98]⟩ : ByteArray) = some ([⟨1, ⟨#[97]⟩, 0, 0⟩], 0, 0) := by
  show some (lexF _) = _
  rw [lexF_scan _ (by decide)]
  kernel_rfl
theorem ex5 : lex_Lex.f (⟨#[97, 32, 36]⟩ : ByteArray) = some ([], 2, 90) := by
  show some (lexF _) = _
  rw [lexF_scan _ (by decide)]
  kernel_rfl
theorem ex6 : lex_Lex.f (⟨#[97, 61, 49]⟩ : ByteArray) = some ([⟨1, ⟨#[97]⟩, 0, 0⟩, ⟨3, ⟨#[61]⟩, 0, 1⟩, ⟨2, ⟨#[]⟩, 1, 2⟩], 0, 0) := by
  show some (lexF _) = _
  rw [lexF_scan _ (by decide)]
  kernel_rfl
theorem ex7 : lex_Lex.f (⟨#[]⟩ : ByteArray) = some ([], 0, 0) := by
  show some (lexF _) = _
  rw [lexF_scan _ (by decide)]
  kernel_rfl
theorem tx1 : Ev (fun k => lex_Text.f k [⟨1, ⟨#[97]⟩, 0, 0⟩, ⟨3, ⟨#[61]⟩, 0, 1⟩, ⟨2, ⟨#[]⟩, 1, 2⟩]) (⟨#[97, 32, 61, 32, 49]⟩, 0) := by
  have h := lextext_is [⟨1, ⟨#[97]⟩, 0, 0⟩, ⟨3, ⟨#[61]⟩, 0, 1⟩, ⟨2, ⟨#[]⟩, 1, 2⟩] (by decide)
  have e : textF [⟨1, ⟨#[97]⟩, 0, 0⟩, ⟨3, ⟨#[61]⟩, 0, 1⟩, ⟨2, ⟨#[]⟩, 1, 2⟩] = (⟨#[97, 32, 61, 32, 49]⟩, 0) := by
    unfold textF
    rw [if_pos (by decide +kernel)]
    have : wordL ⟨2, ⟨#[]⟩, 1, 2⟩ = [49] := by
      show decDigits 1 = _
      rw [decDigits_one (by decide)]
      rfl
    rw [List.map_cons, List.map_cons, List.map_cons, List.map_nil, this]
    rfl
  rw [e] at h
  exact h
theorem tx2 : Ev (fun k => lex_Text.f k [⟨0, ⟨#[]⟩, 0, 0⟩]) (⟨#[]⟩, 90) := by
  have h := lextext_is [⟨0, ⟨#[]⟩, 0, 0⟩] (by decide)
  have e : textF [⟨0, ⟨#[]⟩, 0, 0⟩] = (⟨#[]⟩, 90) := by
    unfold textF
    rw [if_neg (by decide +kernel)]
  rw [e] at h
  exact h
theorem nm1 : Ev (fun k => lex_Name.f k (⟨#[66, 95, 49, 50]⟩ : ByteArray)) true := by
  have e : nameL (⟨#[66, 95, 49, 50]⟩ : ByteArray).data.toList = true := by decide +kernel
  have := Ev.of (lex_Name.mono _) (name_some (⟨#[66, 95, 49, 50]⟩ : ByteArray))
  rw [e] at this
  exact this
theorem nm2 : Ev (fun k => lex_Name.f k (⟨#[95, 49, 50]⟩ : ByteArray)) false := by
  have e : nameL (⟨#[95, 49, 50]⟩ : ByteArray).data.toList = false := by decide +kernel
  have := Ev.of (lex_Name.mono _) (name_some (⟨#[95, 49, 50]⟩ : ByteArray))
  rw [e] at this
  exact this
theorem sane_end : Ev (fun k => testamurlaw09_sane.j0 k [⟨1, ⟨#[101, 97, 114, 110]⟩, 0, 0⟩, ⟨2, ⟨#[]⟩, 30, 5⟩, ⟨3, ⟨#[59]⟩, 0, 7⟩] [⟨1, ⟨#[101, 97, 114, 110]⟩, 0, 0⟩, ⟨2, ⟨#[]⟩, 30, 5⟩, ⟨3, ⟨#[59]⟩, 0, 7⟩]
    [⟨2, ⟨#[]⟩, 1099511627776, 0⟩] [⟨1, ⟨#[97]⟩, 0, 0⟩] [⟨1, ⟨#[97]⟩, 0, 0⟩, ⟨3, ⟨#[61]⟩, 0, 1⟩, ⟨2, ⟨#[]⟩, 1, 2⟩] ⟨#[97, 32, 61, 32, 49]⟩ false) true := by
  have t1 : (rd_T35 [⟨1, ⟨#[97]⟩, 0, 0⟩] 0).f1.toList = ([97] : List UInt8) := by rw [ByteArray.toList_eq]; rfl
  have t2 : (⟨#[97, 32, 61, 32, 49]⟩ : ByteArray).toList = ([97, 32, 61, 32, 49] : List UInt8) := by rw [ByteArray.toList_eq]
  have s1 : lex_Same.f [⟨1, ⟨#[97]⟩, 0, 0⟩] [⟨1, ⟨#[97]⟩, 0, 0⟩, ⟨3, ⟨#[61]⟩, 0, 1⟩, ⟨2, ⟨#[]⟩, 1, 2⟩] = some false := by kernel_rfl
  have s2 : lex_Same.f [⟨1, ⟨#[97]⟩, 0, 0⟩] [⟨1, ⟨#[97]⟩, 0, 9⟩] = some true := by kernel_rfl
  refine Ev.step (fun k => by rw [testamurlaw09_sane.j0]) ?_
  refine Ev.congr (fun k => if_neg (by simp)) ?_
  refine Ev.bind (refequal_is _ (by decide)) ?_
  refine Ev.congr (fun k => if_pos rfl) ?_
  refine Ev.congr (fun k => if_pos rfl) ?_
  refine Ev.congr (fun k => if_pos (by decide)) ?_
  refine Ev.congr (fun k => if_pos (by kernel_rfl)) ?_
  refine Ev.congr (fun k => if_pos rfl) ?_
  refine Ev.congr (fun k => if_pos (by decide)) ?_
  refine Ev.congr (fun k => if_pos t1) ?_
  refine Ev.congr (fun k => if_pos t2) ?_
  refine Ev.bind nm1 ?_
  refine Ev.congr (fun k => if_pos rfl) ?_
  refine Ev.bind nm2 ?_
  refine Ev.congr (fun k => if_neg (by simp)) ?_
  simp only [s1, s2, Option.bind_some]
  exact Ev.congr (fun k => if_neg (by simp)) (Ev.now _)
theorem sane_is : Ev (fun k => testamurlaw09_sane.f k) true := by
  unfold testamurlaw09_sane.f
  simp only [ex1, ex2, ex3, ex4, ex5, ex6, ex7, Option.bind_some]
  refine Ev.bind tx1 ?_
  refine Ev.bind tx2 ?_
  simp only [if_true]
  exact sane_end
end Go.Proofs.YtpgjacoinldfhaaDoor.Pl
end
