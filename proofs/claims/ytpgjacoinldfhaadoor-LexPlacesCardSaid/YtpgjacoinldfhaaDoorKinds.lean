/- How the rows' arguments are opened, and what the rows' own condition gives the contracts. -/
import Derived.Test.YtpgjacoinldfhaaDoorWWords
import Derived.Test.YtpgjacoinldfhaaDoorWLast
import Derived.Deep.Slices
import Derived.ChangeArms
import Derived.SizedLaws
import Derived.DataReads
import Derived.Test.YtpgjacoinldfhaaDoorQ0
import Derived.Test.YtpgjacoinldfhaaDoorLaid
import Derived.Test.YtpgjacoinldfhaaDoorRows
import Derived.WalkKit
import Derived.ProofKit
import Derived.OpenShut
import Derived.ShutString
import Derived.ChangeOld
import Derived.Below
import Derived.LaidMore
import Derived.LaidLaws
import Derived.LaidHandle
import Derived.Stop.Joined
import Derived.Stop.LaidErr
import Derived.Stop.ErrReads
section
namespace Go.Proofs.YtpgjacoinldfhaaDoor.Opens
open Go.RowKit Go.ChangeShapes Go.WideShapes Go.Proofs.YtpgjacoinldfhaaDoorW.PrintWords Go.Proofs.YtpgjacoinldfhaaDoorW.PrintLast
/-- Whatever reads as data of type t is a value of this kind; 'ok' tells its bounds. -/
structure Opens {α : Type} (P : Program) (d : Kd α) (t : TypeId) (ok : α → Prop) : Prop where
  sz : P.cellsOf t = d.sz
  go : ∀ {H : Type} {enc : TypeId × Value → H} {w : World} {base : Nat} {spare : Nat → Bool} {held : Bool} {fuel : Nat} {cs : List Value} {x : DataW H × List MemPlace},
    DataW.trod enc P w base spare held fuel t cs = some x → (∀ n ∈ x.1.weights P t, n ≤ reachBytes) → ∃ a, d.K w a cs ∧ ok a
theorem opens_int {P : Program} {t : TypeId} {k : IntKind} (ht : P.underlying t = some (.int k)) (hs : P.cellsOf t = 1) : Opens P (Kd.int k) t (fun n => (Lit.int k n).wf = true) := by
  refine ⟨hs, ?_⟩
  intro H enc w base spare held fuel cs x h _
  obtain ⟨n, rfl, rfl, hw⟩ := DataW.trod_int ht h
  exact ⟨n, rfl, hw⟩
theorem opens_string {P : Program} {t : TypeId} (ht : P.underlying t = some .string) (hs : P.cellsOf t = 1) : Opens P Kd.string t (fun s => s.size ≤ reachBytes) := by
  refine ⟨hs, ?_⟩
  intro H enc w base spare held fuel cs x h hw
  obtain ⟨s, rfl, rfl, _⟩ := DataW.trod_string ht h
  refine ⟨s, rfl, ?_⟩
  have := hw s.data.toList.length (by simp [DataW.weights])
  rwa [data_length] at this
theorem weights_all {H : Type} {P : Program} {e : TypeId} : ∀ {l : List (DataW H)} {d : DataW H}, d ∈ l → ∀ n ∈ d.weights P e, n ∈ DataW.weightsAll P e l
  | d0 :: l, d, hd, n, hn => by
    simp only [DataW.weightsAll, List.mem_append]
    rcases List.mem_cons.1 hd with rfl | hd
    · exact .inl hn
    · exact .inr (weights_all hd n hn)
theorem opens_slice {α : Type} {P : Program} {t e : TypeId} {d : Kd α} {ok : α → Prop} (ht : P.underlying t = some (.slice e)) (hs : P.cellsOf t = 1) (hd : Opens P d e ok) :
    Opens P (Kd.slice e d) t (fun l => l.length * P.bytesOf e ≤ reachBytes ∧ ∀ a ∈ l, ok a) := by
  refine ⟨hs, ?_⟩
  intro H enc w base spare held fuel cs x h hw
  rcases Deep.open_slice ht h with ⟨rfl, rfl⟩ | ⟨a, len, cap, m, n, D, Pl, rfl, hb, hl, hm, hmm, rfl, hx⟩
  · exact ⟨[], ⟨none, 0, rfl, Nat.le_refl _, rfl, by simp, fun h => absurd h (Nat.lt_irrefl 0)⟩, by simp, by simp⟩
  · have hle : len ≤ m := by rw [hmm]; split <;> omega
    have hwt : ∀ i, i < len → ∀ n ∈ (D i).weights P e, n ≤ reachBytes := by
      intro i hi n hn
      refine hw n ?_
      simp only [DataW.weights, ht, List.mem_cons, List.mem_append]
      exact .inr (.inl (weights_all (List.mem_map.2 ⟨i, List.mem_range.2 hi, rfl⟩) n hn))
    have hall : ∀ i, i < len → ∃ a', ok a' ∧ ∃ c, c.length = d.sz ∧ d.K w a' c ∧ ∀ j u, c[j]? = some u → w.cell? (a.add (i * d.sz + j)) = some u := by
      intro i hi
      obtain ⟨cs', h1, h2⟩ := hx i (by omega)
      obtain ⟨_, hlen, hc⟩ := World.cells?_some h1
      obtain ⟨a', hk, ho⟩ := hd.go h2 (hwt i hi)
      refine ⟨a', ho, cs', by rw [hlen, hd.sz], hk, fun j u hu => ?_⟩
      have hj : j < P.cellsOf e := by rw [← hlen]; exact (List.getElem?_eq_some_iff.1 hu).1
      have := hc j hj
      rw [Deep.add_add, hd.sz] at this
      rw [this, hu]
    by_cases h0 : len = 0
    · subst h0
      exact ⟨[], ⟨some a, cap, rfl, by simp, rfl, by simp, fun h => absurd h (Nat.lt_irrefl 0)⟩, by simp, by simp⟩
    · obtain ⟨a0, _⟩ := hall 0 (by omega)
      haveI : Inhabited α := ⟨a0⟩
      obtain ⟨f, hf⟩ := Deep.choose_lt hall
      have hlen : ((List.range len).map f).length = len := by simp
      refine ⟨(List.range len).map f, ⟨some a, cap, by rw [hlen], by rw [hlen]; exact hl, ?_⟩, ?_, ?_⟩
      · refine ⟨rfl, by rw [hlen]; unfold maxLen at hm; omega, fun _ => ⟨a, rfl, fun j p hj => ?_⟩⟩
        have hjl : j < len := by have := (List.getElem?_eq_some_iff.1 hj).1; rwa [hlen] at this
        have hp : p = f j := by
          rw [List.getElem?_map, List.getElem?_range hjl] at hj
          exact (Option.some.inj hj).symm
        subst hp
        exact (hf j hjl).2
      · rw [hlen]
        have := hw ((((List.range len).map D).length + ((List.range (m - len)).map fun j => D (len + j)).length) * P.bytesOf e) (by simp [DataW.weights, ht])
        refine Nat.le_trans (Nat.mul_le_mul_right _ ?_) this
        simp
      · intro a' ha'
        obtain ⟨j, hj, rfl⟩ := List.mem_map.1 ha'
        exact (hf j (List.mem_range.1 hj)).1
/-- The same of a struct's fields from a place on. -/
structure OpensF {α : Type} (P : Program) (d : Kd α) (fs : List Field) (off : Nat) (ok : α → Prop) : Prop where
  go : ∀ {H : Type} {enc : TypeId × Value → H} {w : World} {base : Nat} {spare : Nat → Bool} {held : Bool} {fuel : Nat} {cs : List Value} {xs : List (DataW H × List MemPlace)},
    xs.length = fs.length → (∀ (i : Nat) (f : Field), fs[i]? = some f → DataW.trod enc P w base spare held fuel f.type ((cs.drop f.offset).take (P.cellsOf f.type)) = xs[i]?) → cs.length = off + d.sz →
    (∀ n ∈ DataW.weightsEach P (fs.map (·.type)) (xs.map (·.1)), n ≤ reachBytes) → ∃ a, d.K w a (cs.drop off) ∧ ok a
theorem opensF_one {α : Type} {P : Program} {d : Kd α} {f : Field} {off : Nat} {ok : α → Prop} (hd : Opens P d f.type ok) (hf : f.offset = off) : OpensF P d [f] off ok := by
  refine ⟨?_⟩
  intro H enc w base spare held fuel cs xs hl h hcs hw
  match xs, hl with
  | [x], _ =>
    have h0 := h 0 f rfl
    rw [hf, hd.sz, List.take_of_length_le (by rw [List.length_drop]; omega)] at h0
    refine hd.go h0 (fun n hn => hw n ?_)
    simp only [List.map_cons, List.map_nil, DataW.weightsEach, List.mem_append]
    exact .inl hn
theorem opensF_cons {α β : Type} {P : Program} {d : Kd α} {d' : Kd β} {f : Field} {fs : List Field} {off : Nat} {ok : α → Prop} {ok' : β → Prop} (hd : Opens P d f.type ok) (hf : f.offset = off) (hr : OpensF P d' fs (off + d.sz) ok') :
    OpensF P (Kd.pair d d') (f :: fs) off (fun x => ok x.1 ∧ ok' x.2) := by
  refine ⟨?_⟩
  intro H enc w base spare held fuel cs xs hl h hcs hw
  match xs, hl with
  | x :: xs, hl =>
    have h0 := h 0 f rfl
    rw [hf, hd.sz] at h0
    have hcs' : cs.length = off + (d.sz + d'.sz) := hcs
    obtain ⟨a, ha, hoa⟩ := hd.go h0 (fun n hn => hw n (by simp only [List.map_cons, DataW.weightsEach, List.mem_append]; exact .inl hn))
    obtain ⟨b, hb, hob⟩ := hr.go (xs := xs) (by simpa using hl) (fun i g hg => h (i + 1) g hg) (by omega) (fun n hn => hw n (by simp only [List.map_cons, DataW.weightsEach, List.mem_append]; exact .inr hn))
    refine ⟨(a, b), ⟨(cs.drop off).take d.sz, cs.drop (off + d.sz), ?_, ha, hb⟩, hoa, hob⟩
    rw [← List.drop_drop, List.take_append_drop]
theorem opens_struct {α β : Type} {P : Program} {t : TypeId} {fs : Array Field} {d : Kd α} {ok : α → Prop} {f : β → α} (inv : α → β) (hinv : ∀ a, f (inv a) = a) (ht : P.underlying t = some (.struct fs)) (hs : P.cellsOf t = d.sz) (hf : OpensF P d fs.toList 0 ok) :
    Opens P (Kd.iso d f) t (fun x => ok (f x)) := by
  refine ⟨hs, ?_⟩
  intro H enc w base spare held fuel cs x h hw
  obtain ⟨xs, n, _, rfl, hcs, hxl, hx⟩ := DataW.trod_struct ht h
  obtain ⟨a, ha, ho⟩ := hf.go (xs := xs) (by rw [hxl]; simp) (fun i g hg => hx i g (by rw [← Array.getElem?_toList]; exact hg)) (by rw [hcs, hs]; omega) (fun n hn => hw n (by simp only [DataW.weights, ht]; exact hn))
  rw [List.drop_zero] at ha
  exact ⟨inv a, by show d.K w (f (inv a)) cs; rw [hinv]; exact ha, by rw [hinv]; exact ho⟩
/-- An argument, out of a row's reading of all. -/
theorem opens_arg {α H : Type} {P : Program} {d : Kd α} {t : TypeId} {ok : α → Prop} (hd : Opens P d t ok) {enc : TypeId × Value → H} {w : World} {base : Nat} {spare : Nat → Bool} {held : Bool} {v : Value} {y : DataW H} {ps : List MemPlace}
    {ts : List TypeId} {ds : List (DataW H)} {j : Nat} (hsz : (DataW.weightsEach P ts ds).all (· ≤ reachBytes) = true) (ht : ts[j]? = some t) (hy : ds[j]? = some y) (h : DataW.Trod enc P w base spare held t v y ps) : ∃ a, d.K w a v.cells.toList ∧ ok a := by
  obtain ⟨fuel, hf⟩ := h
  refine hd.go hf (fun n hn => ?_)
  have := List.all_eq_true.1 hsz n (DataW.weights_mem_each ht hy n hn)
  simpa using this
end Go.Proofs.YtpgjacoinldfhaaDoor.Opens
end
section
namespace Go.Proofs.YtpgjacoinldfhaaDoor.Kinds
open Go Go.ChangeShapes Go.WideShapes Go.ChangeAt Go.RowKit Go.Proofs.YtpgjacoinldfhaaDoor.Q Go.Proofs.YtpgjacoinldfhaaDoor.Opens Go.Proofs.YtpgjacoinldfhaaDoorW.PrintWords Go.Proofs.YtpgjacoinldfhaaDoorW.PrintLast
theorem own : ownKnob Tryd.prog.godebug = none := by kernel_rfl
theorem laidOut : laidOutB Tryd.prog = true := by kernel_rfl
def Ok35 (x : S35) : Prop := (Lit.int .i64 x.f0).wf = true ∧ x.f1.size ≤ reachBytes ∧ (Lit.int .i64 x.f2).wf = true ∧ (Lit.int .i64 x.f3).wf = true
theorem o3 : Opens Tryd.prog (Kd.int .i64) 3 (fun n => (Lit.int .i64 n).wf = true) := opens_int Tryd.underlying3 (by kernel_rfl)
theorem o5 : Opens Tryd.prog (Kd.int .u8) 5 (fun n => (Lit.int .u8 n).wf = true) := opens_int Tryd.underlying5 (by kernel_rfl)
theorem o9 : Opens Tryd.prog Kd.string 9 (fun s => s.size ≤ reachBytes) := opens_string Tryd.underlying9 (by kernel_rfl)
theorem o35 : Opens Tryd.prog k35 35 Ok35 :=
  opens_struct (fun a => ⟨a.1, a.2.1, a.2.2.1, a.2.2.2⟩) (fun _ => rfl) Tryd.underlying35 (by kernel_rfl) (opensF_cons o3 rfl (opensF_cons o9 rfl (opensF_cons o3 rfl (opensF_one o3 rfl))))
theorem o23 : Opens Tryd.prog (Kd.slice 35 k35) 23 (fun l => l.length * Tryd.prog.bytesOf 35 ≤ reachBytes ∧ ∀ a ∈ l, Ok35 a) := opens_slice Tryd.underlying23 (by kernel_rfl) o35
theorem o39 : Opens Tryd.prog (Kd.slice 5 (Kd.int .u8)) 39 (fun l => l.length * Tryd.prog.bytesOf 5 ≤ reachBytes ∧ ∀ a ∈ l, (Lit.int .u8 a).wf = true) := opens_slice Tryd.underlying39 (by kernel_rfl) o5
def laid5 : List (String × DataW Unit) := [("math/bits.deBruijn32tab", Rows.laid_math_bits_deBruijn32tab), ("math/bits.deBruijn64tab", Rows.laid_math_bits_deBruijn64tab), ("internal/strconv.uint64pow10", Rows.laid_internal_strconv_uint64pow10), ("strconv.ErrRange", Rows.laid_strconv_ErrRange), ("strconv.ErrSyntax", Rows.laid_strconv_ErrSyntax)]
theorem tPow : (Tryd.prog.globals[3]?).map (·.type) = some 100 := by kernel_rfl
theorem tSyn : (Tryd.prog.globals[0]?).map (·.type) = some 61 := by kernel_rfl
theorem tRng : (Tryd.prog.globals[1]?).map (·.type) = some 61 := by kernel_rfl
theorem star : "*" ++ "errors.errorString" = "*errors.errorString" := by decide
theorem row106 (u : TypeId) (h : Tryd.prog.typeName? 3 u = some "*errors.errorString") : u = 106 :=
  typeName_ptr_named (nm := "errors.errorString") (by rw [star]; kernel_rfl) (by kernel_rfl) (by decide) u (by rw [star]; exact h)
set_option maxRecDepth 100000 in
/-- The door's own heap meets the condition. -/
theorem door_met (os : Os) (args : Array Value) : laidMetH Tryd.prog laid5 ((World.doorLaid Tryd.prog 62 os).forCall (fun _ _ => 0) ⟨#[], args, []⟩).memory :=
  laidMetH_of_parts3 (fuel := 8) (laidMet_of_run' 8 (by kernel_rfl) (by kernel_rfl)) (by kernel_rfl) (by kernel_rfl)
set_option maxRecDepth 100000 in
/-- What the condition gives. -/
theorem laid_of {W : World} (h : laidMetH Tryd.prog laid5 W) : Laid W := by
  rw [MakeChecks.laidMetH_plain _ _ _ (by kernel_rfl)] at h
  have h := h.tail.tail
  have t : Lib.TabIs Tryd.prog W "internal/strconv.uint64pow10" .u64 Lib.pow10Tab := Lib.tabIs_of_head gPow tPow Tryd.underlying100 Tryd.underlying83 (by kernel_rfl) (by kernel_rfl) h
  obtain ⟨a, _, hr, _⟩ := laid_sentinel h.tail gRng tRng Tryd.underlying61 row106 Tryd.underlying106 Tryd.underlying108 rfl rfl Tryd.underlying9 (by kernel_rfl) (by kernel_rfl)
  obtain ⟨b, _, hs, _⟩ := laid_sentinel h.tail.tail gSyn tSyn Tryd.underlying61 row106 Tryd.underlying106 Tryd.underlying108 rfl rfl Tryd.underlying9 (by kernel_rfl) (by kernel_rfl)
  exact ⟨t, ⟨_, _, hs⟩, ⟨_, _, hr⟩⟩
set_option maxRecDepth 100000 in
/-- A string argument. -/
theorem arg_string {H : Type} {enc : TypeId × Value → H} {w : World} {base : Nat} {spare : Nat → Bool} {held : Bool} {v : Value} {y : DataW H} {ps : List MemPlace} {ts : List TypeId} {ds : List (DataW H)} {j : Nat}
    (hsz : (DataW.weightsEach Tryd.prog ts ds).all (· ≤ reachBytes) = true) (ht : ts[j]? = some 9) (hy : ds[j]? = some y) (h : DataW.Trod enc Tryd.prog w base spare held 9 v y ps) (hv : Value.okWide Tryd.prog w .any base 9 v) :
    ∃ a : ByteArray, v = .string a ∧ a.size ≤ reachBytes := by
  obtain ⟨a, hk, ho⟩ := opens_arg o9 hsz ht hy h
  obtain ⟨b, rfl, _⟩ := ChangeMaps.open_string Tryd.underlying9 hv h
  have e : [Value.string b] = [Value.string a] := hk
  obtain rfl := Value.string.inj (List.cons.inj e).1
  exact ⟨_, rfl, ho⟩
set_option maxRecDepth 100000 in
/-- A slice argument. -/
theorem arg_slice {α H : Type} {d : Kd α} {e t : TypeId} {ok : List α → Prop} (hd : Opens Tryd.prog (Kd.slice e d) t ok) (hu : Tryd.prog.underlying t = some (.slice e)) {enc : TypeId × Value → H} {w : World} {base : Nat} {spare : Nat → Bool} {held : Bool} {v : Value} {y : DataW H} {ps : List MemPlace} {ts : List TypeId} {ds : List (DataW H)} {j : Nat}
    (hsz : (DataW.weightsEach Tryd.prog ts ds).all (· ≤ reachBytes) = true) (ht : ts[j]? = some t) (hy : ds[j]? = some y) (h : DataW.Trod enc Tryd.prog w base spare held t v y ps) (hv : Value.okWide Tryd.prog w .any base t v) :
    ∃ (A : Option Addr) (c : Nat) (l : List α), v = .slice A l.length c ∧ l.length ≤ c ∧ Kd.C d w A l.length l ∧ ok l := by
  obtain ⟨l, ⟨A, c, hk, hc, hC⟩, ho⟩ := opens_arg hd hsz ht hy h
  obtain ⟨a', len', cap', rfl⟩ := okWide_slice hu hv
  have e : [Value.slice a' len' cap'] = [Value.slice A l.length c] := hk
  rw [(List.cons.inj e).1]
  exact ⟨A, c, l, rfl, hc, hC, ho⟩
end Go.Proofs.YtpgjacoinldfhaaDoor.Kinds
end
