/- The law LexPlaces: the texts of a source's tokens stand at their places, with nothing but white space and comments between them. -/
import Derived.Test.YtpgjacoinldfhaaDoorRowLexPlaces
import Derived.Test.YtpgjacoinldfhaaDoorPlainB
import Derived.Test.YtpgjacoinldfhaaDoorQ12
namespace Go.Proofs.YtpgjacoinldfhaaDoor.Pl
open Go Go.Lib Go.RowKit Go.Proofs.YtpgjacoinldfhaaDoor.Q Go.Proofs.YtpgjacoinldfhaaDoor.Kinds Go.Proofs.YtpgjacoinldfhaaDoorW.PrintWords Go.Proofs.YtpgjacoinldfhaaDoorW.PrintLast
theorem scan_place (l : List UInt8) (p : Nat) : ∀ x ∈ (scan l p).1, (p : Int) ≤ x.f3 ∧ x.f3 < (p + l.length : Nat) := by
  refine scan_ind (M := fun l p => ∀ x ∈ (scan l p).1, (p : Int) ≤ x.f3 ∧ x.f3 < (p + l.length : Nat)) (fun p x hx => by rw [scan_nil] at hx; cases hx) (fun c r p h x hx => by rw [scan_none h] at hx; cases hx) (fun l x m p h h1 h2 ih => ?_) l p
  rw [scan_some h]
  have hd : (l.drop m).length = l.length - m := List.length_drop
  have hrest : ∀ z ∈ (scan (l.drop m) (p + m)).1, (p : Int) ≤ z.f3 ∧ z.f3 < (p + l.length : Nat) := fun z hz => by
    have := ih z hz
    rw [hd] at this
    omega
  cases x with
  | sp => exact hrest
  | note => exact hrest
  | tok k t n =>
    intro z hz
    rcases List.mem_cons.1 hz with rfl | hz
    · refine ⟨Int.le_refl _, ?_⟩
      show (p : Int) < (p + l.length : Nat)
      omega
    · exact hrest z hz
theorem spelled_loop (n : Nat) : ∀ s : ByteArray, s.size + n ≤ 4611686018427387904 → Ev (fun k => testamurlaw09_spelled.l0 k s (n : Int)) ⟨(decDigits n ++ s.data.toList).toArray⟩ := by
  induction n using Nat.strongRecOn with
  | _ n ih =>
    intro s hs
    have e := digit_byte n
    have hsz : ((⟨#[UInt8.ofNat (48 + n % 10)]⟩ : ByteArray) ++ s).size = 1 + s.size := by rw [ByteArray.size_append]; rfl
    refine Ev.step (f := fun k => if (n : Int) < 10 then some ((⟨#[UInt8.ofNat (48 + n % 10)]⟩ : ByteArray) ++ s) else testamurlaw09_spelled.l0 k ((⟨#[UInt8.ofNat (48 + n % 10)]⟩ : ByteArray) ++ s) ((n / 10 : Nat) : Int)) (fun k => ?_) ?_
    · simp only [testamurlaw09_spelled.l0]
      rw [Option.bind_some, e, if_pos (by show 1 + s.size ≤ _; omega), tdiv_nat n (by omega)]
    · by_cases h : n < 10
      · refine Ev.congr (fun k => if_pos (by omega)) ?_
        have e2 : (⟨(decDigits n ++ s.data.toList).toArray⟩ : ByteArray) = (⟨#[UInt8.ofNat (48 + n % 10)]⟩ : ByteArray) ++ s := by
          apply bytes_eq
          rw [dec_low n h]
          simp [ByteArray.data_append]
        rw [e2]
        exact Ev.now _
      · refine Ev.congr (fun k => if_neg (by omega)) ?_
        have hih := ih (n / 10) (by omega) ((⟨#[UInt8.ofNat (48 + n % 10)]⟩ : ByteArray) ++ s) (by rw [hsz]; omega)
        have e2 : (⟨(decDigits (n / 10) ++ ((⟨#[UInt8.ofNat (48 + n % 10)]⟩ : ByteArray) ++ s).data.toList).toArray⟩ : ByteArray) = ⟨(decDigits n ++ s.data.toList).toArray⟩ := by
          apply bytes_eq
          rw [dec_step n h]
          simp [ByteArray.data_append]
        rw [e2] at hih
        exact hih
theorem spelled_is {x : S35} (h : validB x = true) : Ev (fun k => testamurlaw09_spelled.f k x.f0 x.f1 x.f2 x.f3) (wordB x) := by
  unfold testamurlaw09_spelled.f wordB
  rcases valid_cases h with ⟨h1, _⟩ | ⟨h1, _, h3, h4⟩ | ⟨h1, _⟩
  · rw [if_neg (show ¬ x.f0 = 2 by omega)]
    exact Ev.congr (fun k => if_neg (by omega)) (Ev.now _)
  · rw [if_pos h1]
    have := spelled_loop x.f2.toNat ⟨#[]⟩ (by show 0 + _ ≤ _; omega)
    rw [Int.toNat_of_nonneg h3] at this
    refine Ev.congr (fun k => if_pos h1) ?_
    have e : decDigits x.f2.toNat ++ (⟨#[]⟩ : ByteArray).data.toList = decDigits x.f2.toNat := List.append_nil _
    rw [e] at this
    exact this
  · rw [if_neg (show ¬ x.f0 = 2 by omega)]
    exact Ev.congr (fun k => if_neg (by omega)) (Ev.now _)
/-- Where the next token stands, or the end. -/
def next (src : ByteArray) (l : List S35) : Int := match l with | [] => (src.size : Int) | t :: _ => t.f3
theorem places_out (src : ByteArray) (ts : List S35) (p n : Nat) (hp : p ≤ src.size) (hn : n ≤ ts.length) (hsc : scan (src.data.toList.drop p) p = (ts.drop n, none))
    (hin : Ev (fun k => testamurlaw09_LexPlaces.l1 k src ts (p : Int) (n : Int) (next src (ts.drop n)) false) true) : Ev (fun k => testamurlaw09_LexPlaces.l0 k src ts (p : Int) (n : Int)) true := by
  have hpl := scan_place (src.data.toList.drop p) p
  rw [hsc, len_at src p hp] at hpl
  have hb : (p : Int) ≤ next src (ts.drop n) ∧ next src (ts.drop n) ≤ (src.size : Int) := by
    cases hd : ts.drop n with
    | nil => exact ⟨by show (p : Int) ≤ (src.size : Int); omega, Int.le_refl _⟩
    | cons t r =>
      have := hpl t (by rw [hd]; simp)
      show (p : Int) ≤ t.f3 ∧ t.f3 ≤ (src.size : Int)
      omega
  have h2 : Ev (fun k => testamurlaw09_LexPlaces.j2 k src ts (p : Int) (n : Int) (next src (ts.drop n)) false) true :=
    Ev.step (f := fun k => testamurlaw09_LexPlaces.l1 k src ts (p : Int) (n : Int) (next src (ts.drop n)) false) (fun k => by simp only [testamurlaw09_LexPlaces.j2]; rw [if_neg (by simp)]) hin
  have h1 : Ev (fun k => testamurlaw09_LexPlaces.j1 k src ts (p : Int) (n : Int) (next src (ts.drop n))) true := by
    refine Ev.step (fun k => ?_) h2
    simp only [testamurlaw09_LexPlaces.j1]
    rw [if_neg (by omega), decide_eq_false (by omega)]
  refine Ev.step (fun k => ?_) h1
  simp only [testamurlaw09_LexPlaces.l0]
  rw [if_pos (by omega)]
  cases hd : ts.drop n with
  | nil =>
    have := drop_end hd
    rw [if_neg (by omega)]
    rfl
  | cons t r =>
    obtain ⟨ex, hlt, _⟩ := rd_drop ts n t r hd
    rw [if_pos (by omega), if_pos (by omega), ex]
    rfl
/-- The rest of a comment. -/
theorem places_note (src : ByteArray) (hs : src.size ≤ 3000) (ts : List S35) (n : Nat) (en : Int) (l : List UInt8) : ∀ (p : Nat), (∀ c ∈ l, c ≠ 10) → (p + l.length : Nat) ≤ en → en ≤ (src.size : Int) → (∃ r, src.data.toList.drop p = l ++ r) →
    Ev (fun k => testamurlaw09_LexPlaces.l1 k src ts ((p + l.length : Nat) : Int) (n : Int) en true) true → Ev (fun k => testamurlaw09_LexPlaces.l1 k src ts (p : Int) (n : Int) en true) true := by
  induction l with
  | nil => intro p _ _ _ _ h; exact h
  | cons c l ih =>
    intro p hc hen hen2 ⟨r, hr⟩ h
    obtain ⟨hb, hlt, hd'⟩ := bt_list src p c (l ++ r) hr
    rw [List.length_cons] at hen h
    have h10 : ¬ (c.toNat : Int) = 10 := fun e => hc c (by simp) (UInt8.toNat_inj.1 (by have : (10 : UInt8).toNat = 10 := rfl; omega))
    refine Ev.step (f := fun k => testamurlaw09_LexPlaces.l1 k src ts ((p + 1 : Nat) : Int) (n : Int) en true) (fun k => ?_) (ih (p + 1) (fun a ha => hc a (by simp [ha])) (by omega) hen2 ⟨r, hd'⟩ ?_)
    · simp only [testamurlaw09_LexPlaces.l1]
      rw [if_pos (by omega), if_pos (by omega), if_pos (by omega), hb, if_neg h10, if_pos trivial, wrap_nat p (by omega)]
    · rw [show p + 1 + l.length = p + (l.length + 1) by omega]
      exact h
theorem pl_facts (p m z : Nat) (h1 : 1 ≤ m) (h2 : m ≤ z - p) (hp : p ≤ z) :
    ¬ ((m : Nat) : Int) = 0 ∧ ¬ ((p + m : Nat) : Int) > (z : Int) ∧ (0 : Int) ≤ (p : Int) ∧ (p : Int) ≤ ((p + m : Nat) : Int) ∧ ((p + m : Nat) : Int) ≤ (z : Int) := by
  omega
theorem places_in (src : ByteArray) (hs : src.size ≤ 3000) (ts : List S35) (hts : ts.length ≤ 3000) (hv : ∀ x ∈ ts, validB x = true) (d : Nat) : ∀ (p n : Nat) (cf : Bool), src.size - p = d → p ≤ src.size → n ≤ ts.length → scan (src.data.toList.drop p) p = (ts.drop n, none) →
    (cf = true → ∀ c r, src.data.toList.drop p = c :: r → c = 10) → Ev (fun k => testamurlaw09_LexPlaces.l1 k src ts (p : Int) (n : Int) (next src (ts.drop n)) cf) true := by
  induction d using Nat.strongRecOn with
  | _ d ih =>
    intro p n cf hd hp hn hsc hcf
    have hlen := len_at src p hp
    cases hl : src.data.toList.drop p with
    | nil =>
      have hend := at_end src p hp hl
      rw [hl, scan_nil] at hsc
      have h0 : ts.drop n = [] := (Prod.mk.inj hsc).1.symm
      have hge := drop_end h0
      rw [h0]
      refine Ev.step (fun k => by rw [testamurlaw09_LexPlaces.l1]) ?_
      refine Ev.congr (fun k => if_neg (show ¬ (p : Int) < (src.size : Int) by omega)) ?_
      refine Ev.congr (fun k => if_pos (show (n : Int) = (ts.length : Int) by omega)) ?_
      exact Ev.now _
    | cons c r =>
      obtain ⟨hb, hlt, hd'⟩ := bt_list src p c r hl
      have hsc0 := hsc
      rw [hl] at hsc hlen
      cases hpc : piece (c :: r) with
      | none => rw [scan_none hpc] at hsc; exact absurd (Prod.mk.inj hsc).2 (by simp)
      | some xm =>
        obtain ⟨x, m⟩ := xm
        obtain ⟨hm1, hm2⟩ := piece_len hpc
        rw [hlen] at hm2
        rw [scan_some hpc, ← hl, List.drop_drop] at hsc
        have hbelow : ∀ q, p < q → q ≤ src.size → scan (src.data.toList.drop q) q = (ts.drop n, none) → (q : Int) ≤ next src (ts.drop n) ∧ next src (ts.drop n) ≤ (src.size : Int) := by
          intro q _ hq hscq
          have hpl := scan_place (src.data.toList.drop q) q
          rw [hscq, len_at src q hq] at hpl
          cases hd : ts.drop n with
          | nil => exact ⟨by show (q : Int) ≤ (src.size : Int); omega, Int.le_refl _⟩
          | cons t r' =>
            have := hpl t (by rw [hd]; simp)
            show (q : Int) ≤ t.f3 ∧ t.f3 ≤ (src.size : Int)
            omega
        have hc10 : cf = true → c = 10 := fun h => hcf h c r hl
        cases x with
        | sp =>
          have hcl : clsB c = 1 ∧ m = 1 := by
            simp only [piece] at hpc
            by_cases h1 : clsB c = 1
            · rw [if_pos h1] at hpc
              injection hpc with hpc
              injection hpc with _ hpc
              exact ⟨h1, hpc.symm⟩
            · rw [if_neg h1] at hpc
              split at hpc
              · split at hpc
                · injection hpc with hpc; injection hpc with hpc; cases hpc
                · cases hpc
              · split at hpc
                · split at hpc
                  · injection hpc with hpc; injection hpc with hpc; cases hpc
                  · cases hpc
                · split at hpc
                  · split at hpc
                    · injection hpc with hpc; injection hpc with hpc; cases hpc
                    · injection hpc with hpc; injection hpc with hpc; cases hpc
                  · cases hpc
          obtain ⟨hcl, rfl⟩ := hcl
          have hsc' : scan (src.data.toList.drop (p + 1)) (p + 1) = (ts.drop n, none) := hsc
          obtain ⟨b1, b2⟩ := hbelow (p + 1) (by omega) (by omega) hsc'
          have hrest := ih (src.size - (p + 1)) (by omega) (p + 1) n false rfl (by omega) hn hsc' (fun h => by cases h)
          have h47 : ¬ (c.toNat : Int) = 47 := fun e => (white_facts hcl).2.2 (UInt8.toNat_inj.1 (by have : (47 : UInt8).toNat = 47 := rfl; omega))
          refine Ev.step (f := fun k => testamurlaw09_LexPlaces.l1 k src ts ((p + 1 : Nat) : Int) (n : Int) (next src (ts.drop n)) false) (fun k => ?_) hrest
          simp only [testamurlaw09_LexPlaces.l1]
          rw [if_pos (by omega), if_pos (by omega), if_pos (by omega), hb, space_is, Option.bind_some, hcl, wrap_nat p (by omega)]
          by_cases h10 : (c.toNat : Int) = 10
          · rw [if_pos h10]
            rfl
          · have hf : cf = false := by
              cases cf with
              | false => rfl
              | true => exact absurd (by rw [hc10 rfl]; rfl) h10
            rw [if_neg h10, hf, if_neg (by simp), if_neg h47]
            rfl
        | note =>
          have hn' : clsB c = 4 ∧ c = 47 ∧ r.head? = some 47 ∧ m = 1 + (r.takeWhile (fun b => b != 10)).length := by
            simp only [piece] at hpc
            split at hpc
            · injection hpc with hpc; injection hpc with hpc; cases hpc
            · split at hpc
              · split at hpc
                · injection hpc with hpc; injection hpc with hpc; cases hpc
                · cases hpc
              · split at hpc
                · split at hpc
                  · injection hpc with hpc; injection hpc with hpc; cases hpc
                  · cases hpc
                · split at hpc
                  · rename_i h4
                    split at hpc
                    · rename_i hcm
                      injection hpc with hpc
                      injection hpc with _ hpc
                      exact ⟨h4, hcm.1, hcm.2, hpc.symm⟩
                    · injection hpc with hpc; injection hpc with hpc; cases hpc
                  · cases hpc
          obtain ⟨hcl, h47, hr47, hm⟩ := hn'
          subst h47
          have hf : cf = false := by
            cases cf with
            | false => rfl
            | true => exact absurd (hc10 rfl) (by decide)
          have hsc' : scan (src.data.toList.drop (p + m)) (p + m) = (ts.drop n, none) := hsc
          obtain ⟨b1, b2⟩ := hbelow (p + m) (by omega) (by omega) hsc'
          cases r with
          | nil => cases hr47
          | cons b r =>
            have hb47 : b = 47 := by simpa using hr47
            subst hb47
            obtain ⟨hb2, hlt2, hd2⟩ := bt_list src (p + 1) 47 r hd'
            have htw : ((47 : UInt8) :: r).takeWhile (fun b => b != 10) = 47 :: r.takeWhile (fun b => b != 10) := takeWhile_cons_true (by rfl)
            have hrest := ih (src.size - (p + m)) (by omega) (p + m) n true rfl (by omega) hn hsc' (fun _ a r' ha => by
              have hdd : src.data.toList.drop (p + m) = (47 :: r).drop ((47 :: r).takeWhile (fun b => b != 10)).length := by
                rw [hm, ← Nat.add_assoc, ← List.drop_drop, hd']
              rw [hdd] at ha
              have := tw_next (q := fun b => b != 10) (47 :: r) (b := a) (by rw [ha]; rfl)
              simpa using this)
            have hmid := places_note src hs ts n (next src (ts.drop n)) ((47 :: r).takeWhile (fun b => b != 10)) (p + 1) (fun a ha => by have := tw_mem a ha; simpa using this) (by rw [hm] at b1; omega) b2
              ⟨(47 :: r).drop ((47 :: r).takeWhile (fun b => b != 10)).length, by rw [hd']; conv => lhs; rw [← List.take_append_drop ((47 :: r).takeWhile (fun b => b != 10)).length (47 :: r)]; rw [take_takeWhile]⟩
              (by rw [show p + 1 + ((47 :: r).takeWhile (fun b => b != 10)).length = p + m by omega]; exact hrest)
            have hm2' : 2 ≤ m := by rw [hm, htw, List.length_cons]; omega
            have hbx : bt src (p : Int) = 47 := hb
            have hbx2 : bt src ((p + 1 : Nat) : Int) = 47 := hb2
            refine Ev.step (f := fun k => testamurlaw09_LexPlaces.l1 k src ts ((p + 1 : Nat) : Int) (n : Int) (next src (ts.drop n)) true) (fun k => ?_) hmid
            simp only [testamurlaw09_LexPlaces.l1]
            rw [if_pos (by omega), if_pos (by omega), if_pos (by omega), hbx, if_neg (by decide), hf, if_neg (by simp), if_pos rfl, wrap_nat p (by omega), if_pos (by omega), if_pos (by omega), if_pos (by omega), hbx2, if_pos rfl]
            rfl
        | tok k t v =>
          have hcl : ¬ clsB c = 1 := by
            intro h1
            simp only [piece] at hpc
            rw [if_pos h1] at hpc
            injection hpc with hpc
            injection hpc with hpc
            cases hpc
          have hf : cf = false := by
            cases cf with
            | false => rfl
            | true => rw [hc10 rfl] at hcl; exact absurd cls10 hcl
          have hsp : (⟨k, ⟨t.toArray⟩, v, (p : Int)⟩ : S35) :: (scan (src.data.toList.drop (p + m)) (p + m)).1 = ts.drop n ∧ (scan (src.data.toList.drop (p + m)) (p + m)).2 = none := by
            have : con ⟨k, ⟨t.toArray⟩, v, (p : Int)⟩ (scan (src.data.toList.drop (p + m)) (p + m)) = (ts.drop n, none) := hsc
            unfold con at this
            exact Prod.mk.inj this
          obtain ⟨hs1, hs2⟩ := hsp
          obtain ⟨ex, hnlt, hdn⟩ := rd_drop ts n _ _ hs1.symm
          have hmem : (⟨k, ⟨t.toArray⟩, v, (p : Int)⟩ : S35) ∈ ts := by
            have : (⟨k, ⟨t.toArray⟩, v, (p : Int)⟩ : S35) ∈ ts.drop n := by rw [← hs1]; simp
            exact List.mem_of_mem_drop this
          have hval := hv _ hmem
          have hword := word_of (p := p) hpc
          have hwsz : (wordB (⟨k, ⟨t.toArray⟩, v, (p : Int)⟩ : S35)).size = m := by
            have := congrArg List.length hword
            rw [List.length_take, hlen] at this
            unfold wordL at this
            rw [data_length] at this
            omega
          have hnext : next src (ts.drop n) = (p : Int) := by rw [← hs1]; rfl
          have hsc' : scan (src.data.toList.drop (p + m)) (p + m) = (ts.drop (n + 1), none) := by rw [hdn, ← hs2]
          have hin := ih (src.size - (p + m)) (by omega) (p + m) (n + 1) false rfl (by omega) (by omega) hsc' (fun h => by cases h)
          have hout := places_out src ts (p + m) (n + 1) (by omega) (by omega) hsc' hin
          rw [hnext, hf]
          have hspell := spelled_is hval
          have hext : (src.extract p (p + m)).toList = (wordB (⟨k, ⟨t.toArray⟩, v, (p : Int)⟩ : S35)).toList := by
            rw [toList_iff]
            apply bytes_eq
            rw [extract_list, hl]
            exact hword.symm
          obtain ⟨q1, q2, q3, q4, q5⟩ := pl_facts p m src.size hm1 hm2 hp
          have hw : wrap64 ((p : Int) + (m : Int)) = ((p + m : Nat) : Int) := by rw [Q.wrap_small (by omega) (by omega)]; omega
          refine Ev.step (fun j => by rw [testamurlaw09_LexPlaces.l1]) ?_
          refine Ev.congr (fun j => if_neg (by omega)) ?_
          refine Ev.congr (fun j => if_neg (by omega)) ?_
          refine Ev.congr (fun j => if_pos (by omega)) ?_
          refine Ev.congr (fun j => if_pos (by omega)) ?_
          rw [ex]
          refine Ev.bind hspell ?_
          refine Ev.congr (fun j => if_neg (show ¬ false = true by simp)) ?_
          simp only [hwsz, hw, wrap_nat n (show n < 4611686018427387904 by omega), Int.toNat_natCast]
          refine Ev.congr (fun j => if_neg q1) ?_
          refine Ev.congr (fun j => if_neg q2) ?_
          refine Ev.congr (fun j => if_pos q3) ?_
          refine Ev.congr (fun j => if_pos q4) ?_
          refine Ev.congr (fun j => if_pos q5) ?_
          refine Ev.congr (fun j => if_pos hext) ?_
          exact hout
theorem lexPlaces_pure : LexPlacesRow.Pure := fun a0 h0 => by
  refine Ev.rounds (g := fun k => testamurlaw09_LexPlaces.f k a0) ?_
  unfold testamurlaw09_LexPlaces.f
  refine Ev.bind sane_is ?_
  refine Ev.congr (fun k => if_pos rfl) ?_
  by_cases hz : (a0.size : Int) > 3000
  · exact Ev.congr (fun k => if_pos hz) (Ev.now _)
  · refine Ev.congr (fun k => if_neg hz) ?_
    simp only [lex_Lex.f, Option.bind_some]
    rw [lexF_scan a0 (by omega)]
    have hl := scan_len a0.data.toList 0
    have hv := scan_valid a0.data.toList 0
    rw [data_length] at hl
    cases hs : scan a0.data.toList 0 with
    | mk ts o =>
      rw [hs] at hl hv
      cases o with
      | some e => exact Ev.congr (fun k => if_neg (by show ¬ (90 : Int) = 0; decide)) (Ev.now _)
      | none =>
        show Ev (fun k => if (0 : Int) = 0 then testamurlaw09_LexPlaces.l0 k a0 ts 0 0 else _) true
        refine Ev.congr (fun k => if_pos rfl) ?_
        simp only at hl hv
        have hsc : scan (a0.data.toList.drop 0) 0 = (ts.drop 0, none) := by rw [List.drop_zero, List.drop_zero]; exact hs
        exact places_out a0 ts 0 0 (by omega) (by omega) hsc (places_in a0 (by omega) ts (by omega) hv _ 0 0 false rfl (by omega) (by omega) hsc (fun h => by cases h))
theorem lexPlaces_done : Rows.LexPlacesCardSaid := LexPlacesRow.card lexPlaces_pure
#print axioms lexPlaces_done
end Go.Proofs.YtpgjacoinldfhaaDoor.Pl
