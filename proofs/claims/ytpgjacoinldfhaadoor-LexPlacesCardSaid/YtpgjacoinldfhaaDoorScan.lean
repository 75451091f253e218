/- The steps of lex.Lex, walked; what they compute, as plain Lean functions. -/
import Derived.Test.YtpgjacoinldfhaaDoorQ1
import Derived.Test.YtpgjacoinldfhaaDoorQ0
import Derived.Test.YtpgjacoinldfhaaDoorLexA
import Derived.WalkSpells
import Derived.WalkLawsBesides
import Derived.Deep.RegionWith
import Derived.Deep.RegionLaw
import Derived.StillTailTactics
import Derived.Test.YtpgjacoinldfhaaDoorHLib
import Derived.Test.YtpgjacoinldfhaaDoorLaid
import Derived.Tactics2
import Derived.Defers
import Derived.Recover
import Derived.Laws.Pointers
import Derived.RegionTactic
import Derived.ChangeAlike
import Derived.Deep.LoopGhost
import Derived.Laws.EntriesVeiled
section
namespace Go.Proofs.YtpgjacoinldfhaaDoor.Q
open Go.RowKit Go.Proofs.YtpgjacoinldfhaaDoorW.PrintWords Go.Proofs.YtpgjacoinldfhaaDoorW.PrintLast Go.Proofs.YtpgjacoinldfhaaDoorW.PrintMore
set_option linter.unusedVariables false
set_option linter.unusedSimpArgs false
theorem cells3 {w : World} {g : Nat} {a b c : Value} {t : TypeId} (h : w.heap[g]? = some (.cells #[a, b, c] t (0, 0))) :
    w.cell? ⟨g, 0, none⟩ = some a ∧ w.cell? ⟨g, 1, none⟩ = some b ∧ w.cell? ⟨g, 2, none⟩ = some c :=
  ⟨(blk_cell h 0).trans rfl, (blk_cell h 1).trans rfl, (blk_cell h 2).trans rfl⟩
/-- Where the text from k on ends whose bytes are of the classes l. -/
def runEnd (l : List Int) (s : ByteArray) (k : Nat) : Nat := k + ((s.data.toList.drop k).takeWhile fun c => l.contains (clsN (c.toNat : Int))).length
theorem bt_get (s : ByteArray) (k : Nat) (h : k < s.size) : bt s (k : Int) = ((s.data.toList[k]'(by rw [data_length]; exact h)).toNat : Int) := by
  simp [bt, h]; rfl
theorem runEnd_step (l : List Int) (s : ByteArray) (k : Nat) (h : k < s.size) (hc : l.contains (clsN (bt s (k : Int))) = true) : runEnd l s (k + 1) = runEnd l s k := by
  have hd : s.data.toList.drop k = s.data.toList[k]'(by rw [data_length]; exact h) :: s.data.toList.drop (k + 1) := List.drop_eq_getElem_cons _
  unfold runEnd
  rw [hd, List.takeWhile_cons, ← bt_get s k h, if_pos hc, List.length_cons]; omega
theorem runEnd_stop (l : List Int) (s : ByteArray) (k : Nat) (h : k < s.size) (hc : l.contains (clsN (bt s (k : Int))) = false) : runEnd l s k = k := by
  have hd : s.data.toList.drop k = s.data.toList[k]'(by rw [data_length]; exact h) :: s.data.toList.drop (k + 1) := List.drop_eq_getElem_cons _
  unfold runEnd
  rw [hd, List.takeWhile_cons, ← bt_get s k h, hc]; simp
theorem runEnd_end (l : List Int) (s : ByteArray) : runEnd l s s.size = s.size := by
  unfold runEnd
  rw [List.drop_of_length_le (by rw [data_length]; omega)]; rfl
theorem runEnd_le (l : List Int) (s : ByteArray) (k : Nat) (h : k ≤ s.size) : k ≤ runEnd l s k ∧ runEnd l s k ≤ s.size := by
  unfold runEnd
  refine ⟨by omega, ?_⟩
  have h1 : ((s.data.toList.drop k).takeWhile fun c => l.contains (clsN (c.toNat : Int))).length ≤ (s.data.toList.drop k).length := (List.takeWhile_prefix _).length_le
  rw [List.length_drop, data_length] at h1
  omega
set_option maxHeartbeats 400000 in
theorem wrong_calls (g i : Nat) (src : ByteArray) (v : Value) (w : World) (hg : w.heap[g]? = some (.cells #[.string src, .int .i64 (i : Int), v] 49 (0, 0))) :
    Calls Tryd.prog 25 #[.pointer (some ⟨g, 0, none⟩)] w fun e w' => e = .panicked [{ v := .iface 42 (.int .i64 (i : Int)), recovered := false }] ∧ w = w' := by
  obtain ⟨h0, h1, h2⟩ := cells3 hg
  go_enter Tryd.func25, Tryd.ntmps25
  go_wp2
  exact ⟨rfl, rfl, rfl⟩
set_option maxHeartbeats 1000000 in
set_option maxRecDepth 100000 in
theorem run_calls (g i : Nat) (src : ByteArray) (v : Value) (A : Option Addr) (c : Nat) (l : List Int) (w : World)
    (hg : w.heap[g]? = some (.cells #[.string src, .int .i64 (i : Int), v] 49 (0, 0))) (hi : i ≤ src.size) (hs : src.size ≤ 65536)
    (hl : (l.length : Int) ≤ 1000000) (hr : Kd.C (Kd.int .i64) w A l.length l) (hc : l.length ≤ c) :
    Calls Tryd.prog 43 #[.pointer (some ⟨g, 0, none⟩), .slice A l.length c] w fun e w' => e = .returned (.string (src.extract i (runEnd l src i))) ∧ Drawn0 w w' := by
  obtain ⟨h0, h1, h2⟩ := cells3 hg
  have HR := Aside0.mk hr
  have HE := runEnd_le l src i hi
  clear hr hg
  go_enter Tryd.func43, Tryd.ntmps43
  go_wp2
  go_loopg [5] (src.size - i) (fun m v5 w' => ∃ k : Nat, v5 = .int .i64 (k : Int) ∧ Aside0 (i ≤ k ∧ k + m = src.size ∧ runEnd l src k = runEnd l src i) ∧ Drawn0 w w')
  case atStart => exact ⟨i, rfl, ⟨Nat.le_refl _, by omega, rfl⟩, Drawn0.refl _⟩
  case round =>
    obtain ⟨k, rfl, HA, ⟨m1, rfl⟩⟩ := hrel
    have hk1 := HA.out.1
    have hk2 : k ≤ src.size := by have := HA.out.2.1; omega
    by_cases hlt : k < src.size
    · have hb := bt_range src (k : Int)
      have hb0 := hb.1
      have hb1 := hb.2
      have hx : ∀ h : k < src.size, ((src[k]'h).toNat : Int) = bt src (k : Int) := fun h => by simp [bt, h]
      have hltb : decide ((k : Int) < (src.size : Int)) = true := decide_eq_true (by omega)
      have hltc : decide (k < src.size) = true := decide_eq_true hlt
      cases hcc : l.contains (clsN (bt src (k : Int))) with
      | true =>
        have HCC := Aside0.mk hcc
        have HS := Aside0.mk (runEnd_step l src k hlt hcc)
        clear hb hcc
        go_wp2_with (first | (go_at_call 30; (with_reducible refine (class_calls _ hb0 hb1 _).mono ?_); rintro e w' ⟨rfl, ⟨nd, rfl⟩⟩) | (go_at_call 52; (with_reducible refine (contains_calls _ _ l _ _ hl ?hq hc).mono ?_); (case hq => repeat (first | exact HR.out | apply Kd.C_drewN)); rw [HCC.out]; rintro e w' ⟨rfl, ⟨nd, rfl⟩⟩))
        cases gk with
        | zero => exact absurd HA.out.2.1 (by omega)
        | succ k2 =>
          go_roundg k2
          case measure => omega
          case rel => exact ⟨k + 1, by go_num, ⟨by omega, by have := HA.out.2.1; omega, by rw [HS.out]; exact HA.out.2.2⟩, by repeat (first | exact Drawn0.refl _ | apply Drawn0.step)⟩
      | false =>
        have HCC := Aside0.mk hcc
        have HF : Aside0 (runEnd l src i = k) := ⟨by rw [← HA.out.2.2]; exact runEnd_stop l src k hlt hcc⟩
        clear hb hcc
        have hik : decide ((i : Int) ≤ (k : Int)) = true := decide_eq_true (by omega)
        go_wp2_with (first | (go_at_call 30; (with_reducible refine (class_calls _ hb0 hb1 _).mono ?_); rintro e w' ⟨rfl, ⟨nd, rfl⟩⟩) | (go_at_call 52; (with_reducible refine (contains_calls _ _ l _ _ hl ?hq hc).mono ?_); (case hq => repeat (first | exact HR.out | apply Kd.C_drewN)); rw [HCC.out]; rintro e w' ⟨rfl, ⟨nd, rfl⟩⟩))
        go_quiet (fail)
        go_wp2
        go_ret
        exact ⟨by rw [HF.out]; rfl, by repeat (first | exact Drawn0.refl _ | apply Drawn0.step)⟩
    · have hkk : k = src.size := by omega
      have HF : Aside0 (runEnd l src i = k) := ⟨by rw [← HA.out.2.2, hkk]; exact runEnd_end l src⟩
      have hltb : decide ((k : Int) < (src.size : Int)) = false := decide_eq_false (by omega)
      have hltc : decide (k < src.size) = false := decide_eq_false hlt
      have hik : decide ((i : Int) ≤ (k : Int)) = true := decide_eq_true (by omega)
      clear hkk
      go_wp2
      go_quiet (fail)
      go_wp2
      go_ret
      exact ⟨by rw [HF.out]; rfl, by repeat (first | exact Drawn0.refl _ | apply Drawn0.step)⟩
end Go.Proofs.YtpgjacoinldfhaaDoor.Q
end
section
namespace Go.Proofs.YtpgjacoinldfhaaDoor.Q
open Go.RowKit Go.Proofs.YtpgjacoinldfhaaDoorW.PrintWords Go.Proofs.YtpgjacoinldfhaaDoorW.PrintLast Go.Proofs.YtpgjacoinldfhaaDoorW.PrintMore
set_option linter.unusedVariables false
set_option linter.unusedSimpArgs false
/-- The scanner in block g: its source, its place, its tokens. -/
def St (g : Nat) (src : ByteArray) (w : World) (i : Nat) (xs : List S35) : Prop :=
  ∃ v, w.heap[g]? = some (.cells #[.string src, .int .i64 (i : Int), v] 49 (0, 0)) ∧ Kd.R k35 35 w g (fun _ => True) v xs
theorem tok_ne : ∀ q, q ∈ 35 :: k35.E → q ≠ 49 := by
  intro q hq
  have e : k35.E = [] := rfl
  rw [e] at hq
  simp at hq
  omega
theorem St.below {g : Nat} {src : ByteArray} {w w' : World} {i : Nat} {xs : List S35} (h : St g src w i xs) (hb : Below w.heap.size w w') : St g src w' i xs := by
  obtain ⟨v, hg, hr⟩ := h
  exact ⟨v, (hb.block g (blk_lt hg)).trans hg, Kd.R_below hr hb⟩
theorem St.at_ {g : Nat} {src : ByteArray} {w : World} {i : Nat} {xs : List S35} (h : St g src w i xs) (j : Nat) : St g src (w.setCell ⟨g, 1, none⟩ (.int .i64 (j : Int))) j xs := by
  obtain ⟨v, hg, hr⟩ := h
  exact ⟨v, blk_set hg 1 _, Kd.R_set hr hg tok_ne 1 _⟩
theorem St.lt {g : Nat} {src : ByteArray} {w : World} {i : Nat} {xs : List S35} (h : St g src w i xs) : g < w.heap.size := by
  obtain ⟨v, hg, hr⟩ := h
  exact blk_lt hg
theorem ints_of_blk {w : World} {b t : Nat} {xs : List Int} (hb : w.heap[b]? = some (.cells (xs.map fun x => Value.int .i64 x).toArray t (0, 0))) (hl : xs.length ≤ 9223372036854775807) : Kd.C (Kd.int .i64) w (some ⟨b, 0, none⟩) xs.length xs := by
  refine Kd.C_of_reads (d := (0 : Int)) (h1 := fun _ => rfl) ⟨rfl, hl, fun _ => ⟨_, rfl, fun j hj => ?_⟩⟩
  rw [add_plain, blk_cell hb]
  simp [hj]
theorem run_St (g i : Nat) (src : ByteArray) (xs : List S35) (A : Option Addr) (c : Nat) (l : List Int) (w : World)
    (h : St g src w i xs) (hi : i ≤ src.size) (hs : src.size ≤ 65536) (hl : (l.length : Int) ≤ 1000000) (hr : Kd.C (Kd.int .i64) w A l.length l) (hc : l.length ≤ c) :
    Calls Tryd.prog 43 #[.pointer (some ⟨g, 0, none⟩), .slice A l.length c] w fun e w' => e = .returned (.string (src.extract i (runEnd l src i))) ∧ Drawn0 w w' := by
  obtain ⟨v, hg, _⟩ := h
  exact run_calls g i src v A c l w hg hi hs hl hr hc
set_option maxHeartbeats 1000000 in
set_option maxRecDepth 100000 in
theorem space_calls (g i : Nat) (src : ByteArray) (xs : List S35) (w : World) (hi : i ≤ src.size) (hs : src.size ≤ 65536) (h : St g src w i xs) :
    Calls Tryd.prog 26 #[.pointer (some ⟨g, 0, none⟩)] w fun e w' => e = .returned (.tuple #[]) ∧ St g src w' (runEnd [1] src i) xs ∧ Below g w w' := by
  have HS := Aside0.mk h
  obtain ⟨v, hg, hr⟩ := h
  obtain ⟨h0, h1, h2⟩ := cells3 hg
  have f1 : w.frozen? ⟨g, 1, none⟩ = false := blk_frozen hg 1
  have hlt := blk_lt hg
  have HE := runEnd_le [1] src i hi
  have HZ : (src.extract i (runEnd [1] src i)).size = runEnd [1] src i - i := by simp; omega
  clear hr hg
  go_enter Tryd.func26, Tryd.ntmps26
  go_region_with (go_at_call 43; refine (run_St g i src xs _ _ [1] _ ?h hi hs (by simp) ?hq (by simp)).mono ?_; (case h => exact St.below HS.out (below_drew1 (below_alloc (Below.refl _ _) _))); (case hq => exact ints_of_blk (xs := [1]) (blk_drew (blk_new _ _)) (by simp)); rintro e w' ⟨rfl, ⟨nd, rfl⟩⟩)
  all_goals
    go_end0
    have ew : IntKind.i64.wrap ((i : Int) + ((runEnd [1] src i - i : Nat) : Int)) = ((runEnd [1] src i : Nat) : Int) := by
      rw [IntWalk.i64_in _ (by omega)]; omega
    rw [ew]
    refine ⟨rfl, St.at_ (HS.out.below (pw_below_drewN (below_alloc (Below.refl _ _) _) _)) _, ?_⟩
    have hb : Below w.heap.size w ((w.alloc (Obj.cells #[Value.int IntKind.i64 1] 3)).drewN (1 + nd)) := pw_below_drewN (below_alloc (Below.refl _ _) _) _
    exact (hb.mono (Nat.le_of_lt hlt)).setCell (Nat.le_refl _) _
end Go.Proofs.YtpgjacoinldfhaaDoor.Q
end
section
namespace Go.Proofs.YtpgjacoinldfhaaDoor.Q
open Go.RowKit Go.Proofs.YtpgjacoinldfhaaDoorW.PrintWords Go.Proofs.YtpgjacoinldfhaaDoorW.PrintLast Go.Proofs.YtpgjacoinldfhaaDoorW.PrintMore
set_option linter.unusedVariables false
set_option linter.unusedSimpArgs false
theorem cells4 {w : World} {g : Nat} {a b c d : Value} {t : TypeId} (h : w.heap[g]? = some (.cells #[a, b, c, d] t (0, 0))) :
    w.cell? ⟨g, 0, none⟩ = some a ∧ w.cell? ⟨g, 1, none⟩ = some b ∧ w.cell? ⟨g, 2, none⟩ = some c ∧ w.cell? ⟨g, 3, none⟩ = some d :=
  ⟨(blk_cell h 0).trans rfl, (blk_cell h 1).trans rfl, (blk_cell h 2).trans rfl, (blk_cell h 3).trans rfl⟩
theorem drew_alloc (w : World) (o : Obj) : (w.alloc o).drew = w.drew.alloc o := rfl
theorem St.box {g i : Nat} {src : ByteArray} {w w2 : World} {xs : List S35} {o : Obj} (h : St g src w i xs) (hb : Below (w.alloc o).heap.size (w.alloc o) w2) (j : Nat) (u : Value) : St g src (w2.setCell ⟨w.heap.size, j, none⟩ u) i xs := by
  obtain ⟨v, hg, hr⟩ := h
  have hlt := blk_lt hg
  have hb2 : Below w.heap.size w w2 := below_step (below_alloc (Below.refl _ _) _) hb
  refine ⟨v, blk_far ((hb2.block g hlt).trans hg) (by show g ≠ w.heap.size; omega) u, ?_⟩
  refine Kd.R_mono (Kd.R_far (p := ⟨w.heap.size, j, none⟩) (Kd.R_below (Kd.R_bound hr) hb2) (fun k hk => ?_) u) (fun _ _ => trivial)
  have := hk.2.2.1
  show k ≠ w.heap.size
  omega
set_option maxHeartbeats 1000000 in
set_option maxRecDepth 100000 in
theorem add_bad (g i K : Nat) (src s : ByteArray) (x : S35) (xs : List S35) (w : World) (h : St g src w i xs)
    (hv : lex_valid.f K x.f0 x.f1 x.f2 x.f3 = some false) :
    Calls Tryd.prog 44 #[.pointer (some ⟨g, 0, none⟩), .string s, .agg #[.int .i64 x.f0, .string x.f1, .int .i64 x.f2, .int .i64 x.f3]] w
      fun e w' => e = .panicked [{ v := .iface 42 (.int .i64 (i : Int)), recovered := false }] ∧ Below g w w' := by
  have HS := Aside0.mk h
  have HV := Aside0.mk hv
  have hlt := h.lt
  clear hv h
  go_enter Tryd.func44, Tryd.ntmps44
  go_wp2_with (go_at_call 36; refine (lex_valid.calls K _ _ _ _ false _ HV.out).mono ?_; rintro e w2 ⟨rfl, hb⟩; have HB := Aside0.mk hb; clear hb; obtain ⟨v, hg, _⟩ := HS.out.below (below_step (below_alloc (Below.refl _ _) _) HB.out); obtain ⟨h0, h1, h2⟩ := cells3 hg; clear hg)
  exact ⟨rfl, rfl, (below_step (below_alloc (Below.refl _ _) _) HB.out).mono (Nat.le_of_lt hlt)⟩
set_option maxHeartbeats 2000000 in
set_option maxRecDepth 100000 in
theorem add_ok (g i K : Nat) (src s : ByteArray) (x : S35) (xs : List S35) (w : World) (h : St g src w i xs)
    (hi : i + s.size ≤ 65536) (hxs : xs.length ≤ 65536) (hv : lex_valid.f K x.f0 x.f1 x.f2 x.f3 = some true) :
    Calls Tryd.prog 44 #[.pointer (some ⟨g, 0, none⟩), .string s, .agg #[.int .i64 x.f0, .string x.f1, .int .i64 x.f2, .int .i64 x.f3]] w
      fun e w' => e = .returned (.tuple #[]) ∧ St g src w' (i + s.size) (xs ++ [⟨x.f0, x.f1, x.f2, (i : Int)⟩]) ∧ Below g w w' := by
  have HS := Aside0.mk h
  have HV := Aside0.mk hv
  have hlt := h.lt
  clear hv h
  go_enter Tryd.func44, Tryd.ntmps44
  go_wp2_with (go_at_call 36; refine (lex_valid.calls K _ _ _ _ true _ HV.out).mono ?_; rintro e w2 ⟨rfl, hb⟩; have HB := Aside0.mk hb; clear hb; have hbox := blk_below (blk_new w (.cells #[.int .i64 x.f0, .string x.f1, .int .i64 x.f2, .int .i64 x.f3] 35)) HB.out; obtain ⟨v2, hg2, _⟩ := HS.out.below (below_step (below_alloc (Below.refl _ _) _) HB.out); obtain ⟨h0, h1, h2⟩ := cells3 hg2; have f3 : w2.frozen? ⟨w.heap.size, 3, none⟩ = false := blk_frozen hbox 3; obtain ⟨b0, b1, b2, b3⟩ := cells4 hbox; have HBOX := Aside0.mk hbox; clear hg2 hbox)
  have HB2 := Aside0.mk ((below_step (below_alloc (Below.refl _ _) _) HB.out : Below w.heap.size w w2).setCell (p := ⟨w.heap.size, 3, none⟩) (Nat.le_refl _) (.int .i64 (i : Int)))
  have HS3 := Aside0.mk (HS.out.box HB.out 3 (.int .i64 (i : Int)))
  have HBOX3 := Aside0.mk (blk_set HBOX.out 3 (.int .i64 (i : Int)))
  clear h0 h1 h2 f3 b0 b1 b2 b3 HB HBOX HV
  obtain ⟨w3, hw3⟩ : ∃ w3, w3 = w2.setCell ⟨w.heap.size, 3, none⟩ (.int .i64 (i : Int)) := ⟨_, rfl⟩
  rw [← hw3] at HB2 HS3 HBOX3 ⊢
  clear hw3
  obtain ⟨v, hg, hr⟩ := HS3.out
  have hbox := HBOX3.out
  simp only [List.setIfInBounds_toArray, List.set] at hbox
  obtain ⟨h0, h1, h2⟩ := cells3 hg
  obtain ⟨b0, b1, b2, b3⟩ := cells4 hbox
  have f2 : w3.frozen? ⟨g, 2, none⟩ = false := blk_frozen hg 2
  have f1 : w3.frozen? ⟨g, 1, none⟩ = false := blk_frozen hg 1
  have hlt3 := blk_lt hg
  have HG := Aside0.mk hg
  have HR := Aside0.mk hr
  clear hg hbox hr HBOX3 HS3
  go_region_law (rw [drew_alloc]; refine Kd.R_append_step k35 (w0 := w3.drew) g (by rfl) (.tmp 23) (.tmp 25) 23 35 (.agg #[(.int .i64 0), (.string ⟨#[]⟩), (.int .i64 0), (.int .i64 0)]) 40 rfl Tryd.underlying23 info35 rfl (by decide) (by decide) v xs (⟨x.f0, x.f1, x.f2, (i : Int)⟩ : S35) [.int .i64 x.f0, .string x.f1, .int .i64 x.f2, .int .i64 (i : Int)] (fun _ => True) (fun _ => False) ?hs ?hx ?hp ?hokp ?hfresh ?HO ?HB ?hbase ?hl ?_; (case hs => rfl); (case hx => rfl); (case hp => exact k35_mkM _ _ _ (⟨x.f0, x.f1, x.f2, (i : Int)⟩ : S35)); (case hokp => exact fun _ hk => hk.elim); (case hfresh => exact fun _ _ => trivial); (case HO => exact Kd.R_drew HR.out); (case HB => exact Below.refl _ _); (case hbase => exact Nat.le_of_lt hlt3); (case hl => omega); intro v1 w4 ho4 hb4 hg4 hat4; obtain ⟨A1, c1, rfl⟩ := Kd.R_slice ho4; have hg5 := blk_grown (blk_drew HG.out) hg4 (Kd.R_ne HR.out HG.out (by decide)); have HG5 := Aside0.mk hg5; have HO5 := Aside0.mk ho4; have HB5 := Aside0.mk hb4; obtain ⟨z0, z1, z2⟩ := cells3 hg5; have y2 : w4.frozen? ⟨g, 2, none⟩ = false := blk_frozen hg5 2; have y1 : w4.frozen? ⟨g, 1, none⟩ = false := blk_frozen hg5 1; clear hg5 ho4 hb4 hg4 hat4)
  all_goals go_wp2
  all_goals
    go_end0
    have hR := HO5.out
    simp only [List.length_append, List.length_cons, List.length_nil] at hR
    refine ⟨rfl, ⟨.slice A1 (xs.length + 1) c1, ?_, ?_⟩, ?_⟩
    · have hz := blk_set (blk_set HG5.out 2 (.slice A1 (xs.length + 1) c1)) 1 (.int .i64 ((i : Int) + (s.size : Int)))
      simpa using hz
    · exact Kd.R_set (Kd.R_set hR HG5.out tok_ne 2 _) (blk_set HG5.out 2 _) tok_ne 1 _
    · exact ((((HB2.out.mono (Nat.le_of_lt hlt)).drew).trans HB5.out).setCell (p := ⟨g, 2, none⟩) (Nat.le_refl _) _).setCell (p := ⟨g, 1, none⟩) (Nat.le_refl _) _
end Go.Proofs.YtpgjacoinldfhaaDoor.Q
end
section
namespace Go.Proofs.YtpgjacoinldfhaaDoor.Q
open Go.RowKit Go.Proofs.YtpgjacoinldfhaaDoorW.PrintWords Go.Proofs.YtpgjacoinldfhaaDoorW.PrintLast Go.Proofs.YtpgjacoinldfhaaDoorW.PrintMore
set_option linter.unusedVariables false
set_option linter.unusedSimpArgs false
/-- What was cut out of the source by a run. -/
def cut (l : List Int) (src : ByteArray) (i : Nat) : ByteArray := src.extract i (runEnd l src i)
theorem cut_size (l : List Int) (src : ByteArray) (i : Nat) (hi : i ≤ src.size) : i + (cut l src i).size = runEnd l src i := by
  have := runEnd_le l src i hi
  simp [cut]; omega
theorem run_cut (g i : Nat) (src : ByteArray) (xs : List S35) (A : Option Addr) (c : Nat) (l : List Int) (w : World)
    (h : St g src w i xs) (hi : i ≤ src.size) (hs : src.size ≤ 65536) (hl : (l.length : Int) ≤ 1000000) (hr : Kd.C (Kd.int .i64) w A l.length l) (hc : l.length ≤ c) :
    Calls Tryd.prog 43 #[.pointer (some ⟨g, 0, none⟩), .slice A l.length c] w fun e w' => e = .returned (.string (cut l src i)) ∧ Drawn0 w w' :=
  run_St g i src xs A c l w h hi hs hl hr hc
set_option maxHeartbeats 1000000 in
set_option maxRecDepth 100000 in
theorem name_ok (g i K : Nat) (src : ByteArray) (xs : List S35) (w : World) (h : St g src w i xs) (hi : i ≤ src.size) (hs : src.size ≤ 65536) (hxs : xs.length ≤ 65536)
    (hv : lex_valid.f K 1 (cut [2, 3, 5] src i) 0 0 = some true) :
    Calls Tryd.prog 27 #[.pointer (some ⟨g, 0, none⟩)] w
      fun e w' => e = .returned (.tuple #[]) ∧ St g src w' (runEnd [2, 3, 5] src i) (xs ++ [⟨1, cut [2, 3, 5] src i, 0, (i : Int)⟩]) ∧ Below g w w' := by
  have HS := Aside0.mk h
  have HV := Aside0.mk hv
  have hlt := h.lt
  have hcs := cut_size [2, 3, 5] src i hi
  have HE := runEnd_le [2, 3, 5] src i hi
  clear h hv
  go_enter Tryd.func27, Tryd.ntmps27
  go_wp2_with (first | (go_at_call 43; refine (run_cut g i src xs _ _ [2, 3, 5] _ ?h hi hs (by simp) ?hq (by simp)).mono ?_; (case h => exact St.below HS.out (below_alloc (Below.refl _ _) _)); (case hq => exact ints_of_blk (xs := [2, 3, 5]) (blk_new _ _) (by simp)); rintro e w' ⟨rfl, ⟨nd, rfl⟩⟩) | (go_at_call 44; refine (add_ok g i K src _ ⟨1, cut [2, 3, 5] src i, 0, 0⟩ xs _ ?h2 ?hi2 hxs HV.out).mono ?_; (case h2 => exact St.below HS.out (pw_below_drewN (below_alloc (Below.refl _ _) _) _)); (case hi2 => omega); rintro e w3 ⟨rfl, hst, hbl⟩; have HST := Aside0.mk hst; have HBL := Aside0.mk hbl; clear hst hbl))
  go_end0
  have hS := HST.out
  rw [hcs] at hS
  exact ⟨rfl, hS, ((pw_below_drewN (below_alloc (Below.refl w.heap.size w) _) _).mono (Nat.le_of_lt hlt)).trans HBL.out⟩
set_option maxHeartbeats 1000000 in
set_option maxRecDepth 100000 in
theorem name_bad (g i K : Nat) (src : ByteArray) (xs : List S35) (w : World) (h : St g src w i xs) (hi : i ≤ src.size) (hs : src.size ≤ 65536)
    (hv : lex_valid.f K 1 (cut [2, 3, 5] src i) 0 0 = some false) :
    Calls Tryd.prog 27 #[.pointer (some ⟨g, 0, none⟩)] w
      fun e w' => e = .panicked [{ v := .iface 42 (.int .i64 (i : Int)), recovered := false }] ∧ Below g w w' := by
  have HS := Aside0.mk h
  have HV := Aside0.mk hv
  have hlt := h.lt
  clear h hv
  go_enter Tryd.func27, Tryd.ntmps27
  go_wp2_with (first | (go_at_call 43; refine (run_cut g i src xs _ _ [2, 3, 5] _ ?h hi hs (by simp) ?hq (by simp)).mono ?_; (case h => exact St.below HS.out (below_alloc (Below.refl _ _) _)); (case hq => exact ints_of_blk (xs := [2, 3, 5]) (blk_new _ _) (by simp)); rintro e w' ⟨rfl, ⟨nd, rfl⟩⟩) | (go_at_call 44; refine (add_bad g i K src _ ⟨1, cut [2, 3, 5] src i, 0, 0⟩ xs _ ?h2 HV.out).mono ?_; (case h2 => exact St.below HS.out (pw_below_drewN (below_alloc (Below.refl _ _) _) _)); rintro e w3 ⟨rfl, hbl⟩; have HBL := Aside0.mk hbl; clear hbl))
  exact ⟨rfl, rfl, ((pw_below_drewN (below_alloc (Below.refl w.heap.size w) _) _).mono (Nat.le_of_lt hlt)).trans HBL.out⟩
end Go.Proofs.YtpgjacoinldfhaaDoor.Q
end
section
namespace Go.Proofs.YtpgjacoinldfhaaDoor.Q
open Go.RowKit Go.Proofs.YtpgjacoinldfhaaDoorW.PrintWords Go.Proofs.YtpgjacoinldfhaaDoorW.PrintLast Go.Proofs.YtpgjacoinldfhaaDoorW.PrintMore
set_option linter.unusedVariables false
set_option linter.unusedSimpArgs false
/-- Do two slashes stand at i? -/
def slashes (src : ByteArray) (i : Nat) : Bool := Lib.hasPrefix (src.extract i src.size).data.toList (⟨#[47, 47]⟩ : ByteArray).data.toList
/-- Where the line of i ends. -/
def lineEnd (src : ByteArray) (i : Nat) : Nat := i + ((src.data.toList.drop i).takeWhile fun c => c != 10).length
def lineIdx (src : ByteArray) (i : Nat) : Int := Lib.indexByte (src.extract i src.size).data.toList (10 : Int).toNat.toUInt8
theorem indexByte_take (l : List UInt8) : Lib.indexByte l 10 = if (l.takeWhile fun c => c != 10).length < l.length then ((l.takeWhile fun c => c != 10).length : Int) else -1 := by
  induction l with
  | nil => rfl
  | cons b l ih =>
    rw [Lib.indexByte, List.takeWhile_cons]
    by_cases h : b = 10
    · subst h; rfl
    · have h1 : (b == 10) = false := beq_eq_false_iff_ne.2 h
      have h2 : (b != 10) = true := bne_iff_ne.2 h
      rw [if_neg (by rw [h1]; decide), if_pos h2, ih]
      by_cases hl : (l.takeWhile fun c => c != 10).length < l.length
      · rw [if_pos hl, if_neg (by rw [beq_iff_eq]; omega), if_pos (by simp only [List.length_cons]; omega)]
        simp only [List.length_cons]; omega
      · rw [if_neg hl, if_pos (by decide), if_neg (by simp only [List.length_cons]; omega)]
theorem extract_drop (src : ByteArray) (i : Nat) : (src.extract i src.size).data.toList = src.data.toList.drop i := by
  rw [ByteArray.data_extract, Array.toList_extract, ← data_length, List.extract_eq_take_drop, List.take_of_length_le (by rw [List.length_drop]; omega)]
theorem lineIdx_yes (src : ByteArray) (i : Nat) (h : 0 ≤ lineIdx src i) : (i : Int) + lineIdx src i = (lineEnd src i : Int) := by
  unfold lineIdx lineEnd at *
  rw [extract_drop, show ((10 : Int).toNat.toUInt8) = 10 from rfl, indexByte_take] at *
  split at h
  · rename_i hl; rw [if_pos hl]; omega
  · omega
theorem lineIdx_no (src : ByteArray) (i : Nat) (hi : i ≤ src.size) (h : ¬ 0 ≤ lineIdx src i) : lineEnd src i = src.size := by
  unfold lineIdx lineEnd at *
  rw [extract_drop, show ((10 : Int).toNat.toUInt8) = 10 from rfl, indexByte_take] at h
  split at h
  · omega
  · rename_i hl
    have h1 : ((src.data.toList.drop i).takeWhile fun c => c != 10).length ≤ (src.data.toList.drop i).length := (List.takeWhile_prefix _).length_le
    rw [List.length_drop, data_length] at h1 hl
    omega
theorem lineIdx_range (src : ByteArray) (i : Nat) (hi : i ≤ src.size) : -1 ≤ lineIdx src i ∧ (i : Int) + lineIdx src i ≤ src.size := by
  unfold lineIdx
  rw [extract_drop, show ((10 : Int).toNat.toUInt8) = 10 from rfl, indexByte_take]
  have h1 : ((src.data.toList.drop i).takeWhile fun c => c != 10).length ≤ (src.data.toList.drop i).length := (List.takeWhile_prefix _).length_le
  rw [List.length_drop, data_length] at h1
  split <;> omega
theorem prefix_calls (src : ByteArray) (i : Nat) (b : Bool) (hb : slashes src i = b) (w : World) :
    Calls Tryd.prog 46 #[.string (src.extract i src.size), .string ⟨#[47, 47]⟩] w fun e w' => e = .returned (.bool b) ∧ w' = w := by
  rw [← hb]; exact Tryd.strings_HasPrefix _ _ _
theorem newline_calls (src : ByteArray) (i : Nat) (w : World) :
    Calls Tryd.prog 47 #[.string (src.extract i src.size), .int .u8 10] w fun e w' => e = .returned (.int .i64 (lineIdx src i)) ∧ w' = w := Tryd.strings_IndexByte _ _ _
/-- A call that leaves the world alone, in a quiet region behind another. -/
theorem same_behind {P : Program} {f : FuncId} {args : Array Value} {w : World} {a n : Nat} {v : Value} (h : Calls P f args (w.drewN (a + n)) fun e w' => e = .returned v ∧ w' = w.drewN (a + n)) :
    Calls P f args (w.drewN (a + n)) fun e w'' => e = .returned v ∧ ∃ m, w'' = w.drewN (a + m) := by
  refine h.mono ?_
  rintro e w' ⟨he, hw⟩
  exact ⟨he, n, hw⟩
set_option maxHeartbeats 1000000 in
set_option maxRecDepth 100000 in
theorem sign_comment (g i : Nat) (src : ByteArray) (xs : List S35) (w : World) (h : St g src w i xs) (hi : i < src.size) (hs : src.size ≤ 65536) (hsl : slashes src i = true) :
    Calls Tryd.prog 29 #[.pointer (some ⟨g, 0, none⟩)] w
      fun e w' => e = .returned (.tuple #[]) ∧ St g src w' (lineEnd src i) xs ∧ Below g w w' := by
  have HS := Aside0.mk h
  have hlt := h.lt
  have HSL := Aside0.mk hsl
  have hrg := lineIdx_range src i (by omega)
  have hr0 := hrg.1
  have hr1 := hrg.2
  obtain ⟨v, hg, _⟩ := h
  obtain ⟨h0, h1, h2⟩ := cells3 hg
  have f1 : w.frozen? ⟨g, 1, none⟩ = false := blk_frozen hg 1
  have hid : decide ((i : Int) ≤ (src.size : Int)) = true := decide_eq_true (by omega)
  clear hg hsl hrg
  by_cases hn : 0 ≤ lineIdx src i
  · have HN := Aside0.mk (lineIdx_yes src i hn)
    go_enter Tryd.func29, Tryd.ntmps29
    go_wp2
    go_quiet ((go_at_call 46; exact Calls.quiet_of_same (prefix_calls src i true HSL.out _)))
    go_wp2
    go_quiet ((go_at_call 47; exact same_behind (newline_calls src i _)))
    go_wp2
    refine bodyPost_ret (results_none rfl _ _ _) rfl ?_
    rw [HN.out]
    exact ⟨rfl, St.at_ (HS.out.below (pw_below_drewN (Below.refl _ _) _)) _, ((pw_below_drewN (Below.refl w.heap.size w) _).mono (Nat.le_of_lt hlt)).setCell (p := ⟨g, 1, none⟩) (Nat.le_refl _) _⟩
  · have HN := Aside0.mk (lineIdx_no src i (by omega) hn)
    go_enter Tryd.func29, Tryd.ntmps29
    go_wp2
    go_quiet ((go_at_call 46; exact Calls.quiet_of_same (prefix_calls src i true HSL.out _)))
    go_wp2
    go_quiet ((go_at_call 47; exact same_behind (newline_calls src i _)))
    go_wp2
    refine bodyPost_ret (results_none rfl _ _ _) rfl ?_
    rw [HN.out]
    exact ⟨rfl, St.at_ (HS.out.below (pw_below_drewN (Below.refl _ _) _)) _, ((pw_below_drewN (Below.refl w.heap.size w) _).mono (Nat.le_of_lt hlt)).setCell (p := ⟨g, 1, none⟩) (Nat.le_refl _) _⟩
/-- The byte at i, as a text. -/
def one (src : ByteArray) (i : Nat) : ByteArray := src.extract i (i + 1)
theorem one_size (src : ByteArray) (i : Nat) (hi : i < src.size) : (one src i).size = 1 := by simp [one]; omega
set_option maxHeartbeats 1000000 in
set_option maxRecDepth 100000 in
theorem sign_ok (g i K : Nat) (src : ByteArray) (xs : List S35) (w : World) (h : St g src w i xs) (hi : i < src.size) (hs : src.size ≤ 65536) (hxs : xs.length ≤ 65536) (hsl : slashes src i = false)
    (hv : lex_valid.f K 3 (one src i) 0 0 = some true) :
    Calls Tryd.prog 29 #[.pointer (some ⟨g, 0, none⟩)] w
      fun e w' => e = .returned (.tuple #[]) ∧ St g src w' (i + 1) (xs ++ [⟨3, one src i, 0, (i : Int)⟩]) ∧ Below g w w' := by
  have HS := Aside0.mk h
  have hlt := h.lt
  have HSL := Aside0.mk hsl
  have HV := Aside0.mk hv
  have h1s := one_size src i hi
  have HONE : Aside0 (src.extract i (i + 1) = one src i) := ⟨rfl⟩
  obtain ⟨v, hg, _⟩ := h
  obtain ⟨h0, h1, h2⟩ := cells3 hg
  have hid : decide ((i : Int) ≤ (src.size : Int)) = true := decide_eq_true (by omega)
  have H1S := Aside0.mk h1s
  clear hg hsl hv h1s
  go_enter Tryd.func29, Tryd.ntmps29
  go_wp2
  go_quiet ((go_at_call 46; exact Calls.quiet_of_same (prefix_calls src i false HSL.out _)))
  go_wp2
  go_quiet (fail)
  go_wp2_with fail
  refine (add_ok g i K src (one src i) ⟨3, one src i, 0, 0⟩ xs _ ?h2 ?hi2 hxs HV.out).mono ?_
  case h2 => exact St.below HS.out (pw_below_drewN (Below.refl _ _) _)
  case hi2 => rw [H1S.out]; omega
  rintro e w3 ⟨rfl, hst, hbl⟩
  have HST := Aside0.mk hst
  have HBL := Aside0.mk hbl
  clear hst hbl
  go_wp2
  go_end0
  have hS := HST.out
  rw [H1S.out] at hS
  exact ⟨rfl, hS, ((pw_below_drewN (Below.refl w.heap.size w) _).mono (Nat.le_of_lt hlt)).trans HBL.out⟩
end Go.Proofs.YtpgjacoinldfhaaDoor.Q
end
section
namespace Go.Proofs.YtpgjacoinldfhaaDoor.Q
open Go.RowKit Go.Proofs.YtpgjacoinldfhaaDoorW.PrintWords Go.Proofs.YtpgjacoinldfhaaDoorW.PrintLast Go.Proofs.YtpgjacoinldfhaaDoorW.PrintMore
set_option linter.unusedVariables false
set_option linter.unusedSimpArgs false
theorem atoi_ok (s : ByteArray) (v : Int) (w : World) (hs : s.size ≤ 65536) (h : Lib.atoiAll s.data.toList = .ok v) :
    Calls Tryd.prog 45 #[.string s] w fun e w' => e = .returned (.tuple #[.int .i64 v, .nilIface]) ∧ Below w.heap.size w w' := by
  refine (Tryd.strconv_Atoi_ok s (by omega) v h w).mono ?_
  rintro e w' ⟨rfl, rfl | ⟨t, rfl⟩⟩
  · exact ⟨rfl, Below.refl _ _⟩
  · exact ⟨rfl, Lib.bytesWorld_below _ _ _⟩
theorem atoi_no (s : ByteArray) (w : World) (hs : s.size ≤ 65536) (hL : Laid w) (h : ∀ v, Lib.atoiAll s.data.toList ≠ .ok v) :
    Calls Tryd.prog 45 #[.string s] w fun e w' => ∃ v a, e = .returned (.tuple #[.int .i64 v, .iface 79 (.pointer (some a))]) ∧ Below w.heap.size w w' := by
  obtain ⟨tp, p, hsyn⟩ := hL.syn
  obtain ⟨tq, q, hrng⟩ := hL.rng
  cases hE : Lib.atoiAll s.data.toList with
  | ok v => exact absurd hE (h v)
  | range =>
    refine (Tryd.strconv_Atoi_range_var s (by omega) hE tq q w hrng).mono ?_
    rintro e w' ⟨n, rfl, _, _, hb⟩
    exact ⟨_, _, rfl, hb⟩
  | _ =>
    refine (Tryd.strconv_Atoi_syntax_var s (by omega) hE tp p w hsyn).mono ?_
    rintro e w' ⟨n, rfl, _, _, hb⟩
    exact ⟨_, _, rfl, hb⟩
set_option maxHeartbeats 1000000 in
set_option maxRecDepth 100000 in
theorem number_err (g i : Nat) (src : ByteArray) (xs : List S35) (w : World) (hL : Laid w) (h : St g src w i xs) (hi : i ≤ src.size) (hs : src.size ≤ 65536)
    (hE : ∀ v, Lib.atoiAll (cut [3] src i).data.toList ≠ .ok v) :
    Calls Tryd.prog 28 #[.pointer (some ⟨g, 0, none⟩)] w
      fun e w' => e = .panicked [{ v := .iface 42 (.int .i64 (i : Int)), recovered := false }] ∧ Below g w w' := by
  have HS := Aside0.mk h
  have HE := Aside0.mk hE
  have HL := Aside0.mk hL
  have hlt := h.lt
  have hcs := cut_size [3] src i hi
  have hre := runEnd_le [3] src i hi
  clear h hE hL
  go_enter Tryd.func28, Tryd.ntmps28
  go_wp2_with (first | (go_at_call 43; refine (run_cut g i src xs _ _ [3] _ ?h hi hs (by simp) ?hq (by simp)).mono ?_; (case h => exact St.below HS.out (below_alloc (Below.refl _ _) _)); (case hq => exact ints_of_blk (xs := [3]) (blk_new _ _) (by simp)); rintro e w' ⟨rfl, ⟨nd, rfl⟩⟩) | (go_at_call 45; refine (atoi_no _ _ ?hz ?hl HE.out).mono ?_; (case hz => omega); (case hl => exact HL.out.below (pw_below_drewN (below_alloc (Below.refl _ _) _) _)); rintro e w3 ⟨vv, aa, rfl, hb⟩; have HB := Aside0.mk (below_step (pw_below_drewN (below_alloc (Below.refl w.heap.size w) _) _) hb); clear hb; obtain ⟨v2, hg2, _⟩ := HS.out.below HB.out; obtain ⟨h0, h1, h2⟩ := cells3 hg2; clear hg2))
  exact ⟨rfl, rfl, HB.out.mono (Nat.le_of_lt hlt)⟩
/-- The decimal text of a number. -/
def dec (v : Int) : ByteArray := ⟨(Lib.itoa v).toArray⟩
theorem itoa_calls (v : Int) (w : World) (h0 : -9223372036854775808 ≤ v) (h1 : v ≤ 9223372036854775807) (hL : Laid w) :
    Calls Tryd.prog 37 #[.int .i64 v] w fun e w' => e = .returned (.string (dec v)) ∧ Below w.heap.size w w' :=
  strconv_Itoa.calls v _ w hL (by unfold strconv_Itoa.f; rw [if_pos ⟨h0, h1⟩]; rfl)
set_option maxHeartbeats 1000000 in
set_option maxRecDepth 100000 in
theorem number_other (g i : Nat) (src : ByteArray) (xs : List S35) (w : World) (hL : Laid w) (h : St g src w i xs) (hi : i ≤ src.size) (hs : src.size ≤ 65536) (v : Int)
    (hE : Lib.atoiAll (cut [3] src i).data.toList = .ok v) (hd : dec v ≠ cut [3] src i) :
    Calls Tryd.prog 28 #[.pointer (some ⟨g, 0, none⟩)] w
      fun e w' => e = .panicked [{ v := .iface 42 (.int .i64 (i : Int)), recovered := false }] ∧ Below g w w' := by
  have HS := Aside0.mk h
  have HE := Aside0.mk hE
  have HL := Aside0.mk hL
  have hlt := h.lt
  have hcs := cut_size [3] src i hi
  have hre := runEnd_le [3] src i hi
  have hvb := Lib.atoiAll_bounds hE
  have hv0 := hvb.1
  have hv1 := hvb.2
  have hq : ((dec v).toList == (cut [3] src i).toList) = false := by
    rw [beq_eq_false_iff_ne, ne_eq, ByteArray.toList_eq, ByteArray.toList_eq]
    exact fun e => hd (ByteArray.ext (Array.toList_inj.1 e))
  clear h hE hL hvb hd
  go_enter Tryd.func28, Tryd.ntmps28
  go_wp2_with (first | (go_at_call 43; refine (run_cut g i src xs _ _ [3] _ ?h hi hs (by simp) ?hq (by simp)).mono ?_; (case h => exact St.below HS.out (below_alloc (Below.refl _ _) _)); (case hq => exact ints_of_blk (xs := [3]) (blk_new _ _) (by simp)); rintro e w' ⟨rfl, ⟨nd, rfl⟩⟩) | (go_at_call 45; refine (atoi_ok _ v _ ?hz HE.out).mono ?_; (case hz => omega); rintro e w3 ⟨rfl, hb⟩; have HB := Aside0.mk (below_step (pw_below_drewN (below_alloc (Below.refl w.heap.size w) _) _) hb); clear hb) | (go_at_call 37; refine (itoa_calls v _ hv0 hv1 ?hl).mono ?_; (case hl => exact HL.out.below HB.out); rintro e w4 ⟨rfl, hb⟩; have HB4 := Aside0.mk (below_step HB.out hb); clear hb; obtain ⟨v2, hg2, _⟩ := HS.out.below HB4.out; obtain ⟨h0, h1, h2⟩ := cells3 hg2; clear hg2))
  exact ⟨rfl, rfl, HB4.out.mono (Nat.le_of_lt hlt)⟩
set_option maxHeartbeats 1000000 in
set_option maxRecDepth 100000 in
theorem number_bad (g i K : Nat) (src : ByteArray) (xs : List S35) (w : World) (hL : Laid w) (h : St g src w i xs) (hi : i ≤ src.size) (hs : src.size ≤ 65536) (v : Int)
    (hE : Lib.atoiAll (cut [3] src i).data.toList = .ok v) (hd : dec v = cut [3] src i) (hv : lex_valid.f K 2 ⟨#[]⟩ v 0 = some false) :
    Calls Tryd.prog 28 #[.pointer (some ⟨g, 0, none⟩)] w
      fun e w' => e = .panicked [{ v := .iface 42 (.int .i64 (i : Int)), recovered := false }] ∧ Below g w w' := by
  have HS := Aside0.mk h
  have HE := Aside0.mk hE
  have HL := Aside0.mk hL
  have hlt := h.lt
  have hcs := cut_size [3] src i hi
  have hre := runEnd_le [3] src i hi
  have hvb := Lib.atoiAll_bounds hE
  have hv0 := hvb.1
  have hv1 := hvb.2
  have HV := Aside0.mk hv
  have hq : ((dec v).toList == (cut [3] src i).toList) = true := by
    rw [hd]; exact beq_self_eq_true _
  clear h hE hL hvb hd hv
  go_enter Tryd.func28, Tryd.ntmps28
  go_wp2_with (first | (go_at_call 43; refine (run_cut g i src xs _ _ [3] _ ?h hi hs (by simp) ?hq (by simp)).mono ?_; (case h => exact St.below HS.out (below_alloc (Below.refl _ _) _)); (case hq => exact ints_of_blk (xs := [3]) (blk_new _ _) (by simp)); rintro e w' ⟨rfl, ⟨nd, rfl⟩⟩) | (go_at_call 45; refine (atoi_ok _ v _ ?hz HE.out).mono ?_; (case hz => omega); rintro e w3 ⟨rfl, hb⟩; have HB := Aside0.mk (below_step (pw_below_drewN (below_alloc (Below.refl w.heap.size w) _) _) hb); clear hb) | (go_at_call 37; refine (itoa_calls v _ hv0 hv1 ?hl).mono ?_; (case hl => exact HL.out.below HB.out); rintro e w4 ⟨rfl, hb⟩; have HB4 := Aside0.mk (below_step HB.out hb); clear hb; obtain ⟨v2, hg2, _⟩ := HS.out.below HB4.out; obtain ⟨h0, h1, h2⟩ := cells3 hg2; clear hg2) | (go_at_call 44; refine (add_bad g i K src _ ⟨2, ⟨#[]⟩, v, 0⟩ xs _ ?h2 HV.out).mono ?_; (case h2 => exact HS.out.below HB4.out); rintro e w5 ⟨rfl, hbl⟩; have HBL := Aside0.mk hbl; clear hbl))
  exact ⟨rfl, rfl, (HB4.out.mono (Nat.le_of_lt hlt)).trans HBL.out⟩
set_option maxHeartbeats 1000000 in
set_option maxRecDepth 100000 in
theorem number_ok (g i K : Nat) (src : ByteArray) (xs : List S35) (w : World) (hL : Laid w) (h : St g src w i xs) (hi : i ≤ src.size) (hs : src.size ≤ 65536) (hxs : xs.length ≤ 65536) (v : Int)
    (hE : Lib.atoiAll (cut [3] src i).data.toList = .ok v) (hd : dec v = cut [3] src i) (hv : lex_valid.f K 2 ⟨#[]⟩ v 0 = some true) :
    Calls Tryd.prog 28 #[.pointer (some ⟨g, 0, none⟩)] w
      fun e w' => e = .returned (.tuple #[]) ∧ St g src w' (runEnd [3] src i) (xs ++ [⟨2, ⟨#[]⟩, v, (i : Int)⟩]) ∧ Below g w w' := by
  have HS := Aside0.mk h
  have HE := Aside0.mk hE
  have HL := Aside0.mk hL
  have hlt := h.lt
  have hcs := cut_size [3] src i hi
  have hre := runEnd_le [3] src i hi
  have hvb := Lib.atoiAll_bounds hE
  have hv0 := hvb.1
  have hv1 := hvb.2
  have HV := Aside0.mk hv
  have hq : ((dec v).toList == (cut [3] src i).toList) = true := by
    rw [hd]; exact beq_self_eq_true _
  clear h hE hL hvb hd hv
  go_enter Tryd.func28, Tryd.ntmps28
  go_wp2_with (first | (go_at_call 43; refine (run_cut g i src xs _ _ [3] _ ?h hi hs (by simp) ?hq (by simp)).mono ?_; (case h => exact St.below HS.out (below_alloc (Below.refl _ _) _)); (case hq => exact ints_of_blk (xs := [3]) (blk_new _ _) (by simp)); rintro e w' ⟨rfl, ⟨nd, rfl⟩⟩) | (go_at_call 45; refine (atoi_ok _ v _ ?hz HE.out).mono ?_; (case hz => omega); rintro e w3 ⟨rfl, hb⟩; have HB := Aside0.mk (below_step (pw_below_drewN (below_alloc (Below.refl w.heap.size w) _) _) hb); clear hb) | (go_at_call 37; refine (itoa_calls v _ hv0 hv1 ?hl).mono ?_; (case hl => exact HL.out.below HB.out); rintro e w4 ⟨rfl, hb⟩; have HB4 := Aside0.mk (below_step HB.out hb); clear hb; obtain ⟨v2, hg2, _⟩ := HS.out.below HB4.out; obtain ⟨h0, h1, h2⟩ := cells3 hg2; clear hg2) | (go_at_call 44; refine (add_ok g i K src (cut [3] src i) ⟨2, ⟨#[]⟩, v, 0⟩ xs _ ?h2 ?hi2 hxs HV.out).mono ?_; (case h2 => exact HS.out.below HB4.out); (case hi2 => omega); rintro e w5 ⟨rfl, hst, hbl⟩; have HST := Aside0.mk hst; have HBL := Aside0.mk hbl; clear hst hbl))
  go_end0
  have hS := HST.out
  rw [hcs] at hS
  exact ⟨rfl, hS, (HB4.out.mono (Nat.le_of_lt hlt)).trans HBL.out⟩
end Go.Proofs.YtpgjacoinldfhaaDoor.Q
end
section
namespace Go.Proofs.YtpgjacoinldfhaaDoor.Q
open Go.RowKit Go.Proofs.YtpgjacoinldfhaaDoorW.PrintWords Go.Proofs.YtpgjacoinldfhaaDoorW.PrintLast Go.Proofs.YtpgjacoinldfhaaDoorW.PrintMore
set_option linter.unusedVariables false
set_option linter.unusedSimpArgs false
theorem catch_idle (p q s : Addr) (w : World) :
    CallsD Tryd.prog 24 #[.pointer (some p), .pointer (some q), .pointer (some s)] .returning w fun e u' w' => e = .returned (.tuple #[]) ∧ u' = .returning ∧ w' = w := by
  refine callsD_of_wpS Tryd.func24 rfl fun c₀ cs hu => ?_
  apply wpS_seq
  apply wpS_region
  simp [wpOpsS, go_sem, recoverD, hu, Tryd.ntmps24, Exit.thenS]
  apply wpS_seq
  apply wpS_region
  simp [wpOpsS, go_sem, Exit.thenS]
  refine wpS_cond (t := false) (by simp [Act.eval, Array.replicate]) ?_
  simp only [Bool.false_eq_true, if_false]
  refine wpS_of_wp (wp_skip ?_)
  cases c₀
  simp_all [bodyPostS, results, Tryd.results24]
set_option maxRecDepth 100000 in
theorem catch_panicking (p q s : Nat) (n : Int) (v0 v1 v2 : Value) (w : World) (hp : w.cell? ⟨p, 0, none⟩ = some v0) (hq : w.cell? ⟨q, 0, none⟩ = some v1) (hs : w.cell? ⟨s, 0, none⟩ = some v2)
    (fp : w.frozen? ⟨p, 0, none⟩ = false) (fq : w.frozen? ⟨q, 0, none⟩ = false) (fs : w.frozen? ⟨s, 0, none⟩ = false) (hpq : p ≠ q) (hps : p ≠ s) (hqs : q ≠ s) :
    CallsD Tryd.prog 24 #[.pointer (some ⟨p, 0, none⟩), .pointer (some ⟨q, 0, none⟩), .pointer (some ⟨s, 0, none⟩)] (.panicking [{ v := .iface 42 (.int .i64 n), recovered := false }]) w fun e u' w' =>
      e = .returned (.tuple #[]) ∧ u' = .panicking [{ v := .iface 42 (.int .i64 n), recovered := true }] ∧ w' = (((w.setCell ⟨p, 0, none⟩ (.slice none 0 0)).setCell ⟨q, 0, none⟩ (.int .i64 n)).setCell ⟨s, 0, none⟩ (.int .i64 90)).drew := by
  have hta : ∀ (v : Value) (W : World), (Instr.typeAssert (.iface 42 v) 20 42 false).run Tryd.prog W = .ok v W := fun v W => by rfl
  refine callsD_of_wpS Tryd.func24 rfl fun c₀ cs hu => ?_
  apply wpS_seq
  apply wpS_region
  simp [wpOpsS, go_sem, recoverD, hu, Tryd.ntmps24, Exit.thenS]
  apply wpS_seq
  apply wpS_region
  simp [wpOpsS, go_sem, Exit.thenS]
  refine wpS_cond (t := true) (by simp [Act.eval, Array.replicate]) ?_
  simp only [if_true]
  refine wpS_of_wp ?_
  go_region
  all_goals simp [bodyPostS, results, Tryd.results24]
end Go.Proofs.YtpgjacoinldfhaaDoor.Q
end
section
namespace Go.Proofs.YtpgjacoinldfhaaDoor.Q
open Go.RowKit Go.Proofs.YtpgjacoinldfhaaDoorW.PrintWords Go.Proofs.YtpgjacoinldfhaaDoorW.PrintLast Go.Proofs.YtpgjacoinldfhaaDoorW.PrintMore
set_option linter.unusedVariables false
set_option linter.unusedSimpArgs false
/-- Is a token valid? -/
def nameL (l : List UInt8) : Bool := decide (0 < l.length ∧ l.length ≤ 32) && l.head?.all (fun c => clsN (c.toNat : Int) == 2) && l.all fun c => clsN (c.toNat : Int) == 2 || clsN (c.toNat : Int) == 3 || clsN (c.toNat : Int) == 5
def validB (x : S35) : Bool :=
  if x.f0 = 1 then nameL x.f1.data.toList && x.f2 == 0
  else if x.f0 = 2 then decide (x.f1.size = 0 ∧ 0 ≤ x.f2 ∧ x.f2 ≤ 1099511627776)
  else if x.f0 = 3 then decide (x.f1.size = 1) && x.f1.data.toList.all (fun c => clsN (c.toNat : Int) == 4) && x.f2 == 0
  else false
/-- The number that a text of digits is, if it is a token's. -/
def numF (s : ByteArray) : Option Int :=
  match Lib.atoiAll s.data.toList with
  | .ok v => if dec v = s ∧ validB ⟨2, ⟨#[]⟩, v, 0⟩ = true then some v else none
  | _ => none
/-- A token more ahead. -/
def con (x : S35) (r : List S35 × Option Nat) : List S35 × Option Nat := (x :: r.1, r.2)
/-- The tokens from i on, and the place of the error, if there is one. -/
def lexI (src : ByteArray) : Nat → Nat → List S35 × Option Nat
  | 0, _ => ([], none)
  | k + 1, i =>
    if i < src.size then
      if clsN (bt src (i : Int)) = 1 then lexI src k (runEnd [1] src i)
      else if clsN (bt src (i : Int)) = 2 then
        if validB ⟨1, cut [2, 3, 5] src i, 0, 0⟩ = true then con ⟨1, cut [2, 3, 5] src i, 0, (i : Int)⟩ (lexI src k (runEnd [2, 3, 5] src i)) else ([], some i)
      else if clsN (bt src (i : Int)) = 3 then
        match numF (cut [3] src i) with
        | some v => con ⟨2, ⟨#[]⟩, v, (i : Int)⟩ (lexI src k (runEnd [3] src i))
        | none => ([], some i)
      else if clsN (bt src (i : Int)) = 4 then
        if slashes src i = true then lexI src k (lineEnd src i) else con ⟨3, one src i, 0, (i : Int)⟩ (lexI src k (i + 1))
      else ([], some i)
    else ([], none)
/-- What Lex answers, where these tokens lie behind and the rest is as told. -/
def fin (xs : List S35) (r : List S35 × Option Nat) : List S35 × Int × Int :=
  match r.2 with
  | none => (xs ++ r.1, 0, 0)
  | some p => ([], (p : Int), 90)
def lexF (src : ByteArray) : List S35 × Int × Int := if src.size > 65536 then ([], 0, 2) else fin [] (lexI src (src.size + 1) 0)
structure LexW (n : Nat) (src : ByteArray) (w wr : World) (i : Nat) (xs : List S35) : Prop where
  b0 : wr.heap[n]? = some (.cells #[.slice none 0 0] 23 (0, 0))
  b1 : wr.heap[n + 1]? = some (.cells #[.int .i64 0] 3 (0, 0))
  b2 : wr.heap[n + 1 + 1]? = some (.cells #[.int .i64 0] 24 (0, 0))
  b3 : wr.heap[n + 1 + 1 + 1]? = some (.cells #[.func (.func 25) #[] #[], .func (.func 26) #[] #[], .func (.func 27) #[] #[], .func (.func 28) #[] #[], .func (.func 29) #[] #[], .func (.func 25) #[] #[]] 46 (0, 0))
  below : Below n w wr
  st : St (n + 1 + 1 + 1 + 1) src wr i xs
theorem LexW.step {n : Nat} {src : ByteArray} {w wr w' : World} {i i' : Nat} {xs xs' : List S35} (h : LexW n src w wr i xs) (hst : St (n + 1 + 1 + 1 + 1) src w' i' xs') (hb : Below (n + 1 + 1 + 1 + 1) wr w') : LexW n src w w' i' xs' :=
  ⟨(hb.block _ (by omega)).trans h.b0, (hb.block _ (by omega)).trans h.b1, (hb.block _ (by omega)).trans h.b2, (hb.block _ (by omega)).trans h.b3, h.below.trans (hb.mono (by omega)), hst⟩
theorem class_is (b c : Int) (h0 : 0 ≤ b) (h1 : b ≤ 255) (hc : clsN b = c) (w : World) :
    Calls Tryd.prog 30 #[.int .u8 b] w fun e w' => e = .returned (.int .i64 c) ∧ Drawn0 w w' := hc ▸ class_calls b h0 h1 w
theorem cells6 {w : World} {g : Nat} {a b c d e f : Value} {t : TypeId} (h : w.heap[g]? = some (.cells #[a, b, c, d, e, f] t (0, 0))) :
    w.cell? ⟨g, 0, none⟩ = some a ∧ w.cell? ⟨g, 1, none⟩ = some b ∧ w.cell? ⟨g, 2, none⟩ = some c ∧ w.cell? ⟨g, 3, none⟩ = some d ∧ w.cell? ⟨g, 4, none⟩ = some e ∧ w.cell? ⟨g, 5, none⟩ = some f :=
  ⟨(blk_cell h 0).trans rfl, (blk_cell h 1).trans rfl, (blk_cell h 2).trans rfl, (blk_cell h 3).trans rfl, (blk_cell h 4).trans rfl, (blk_cell h 5).trans rfl⟩
theorem runEnd_more (l : List Int) (src : ByteArray) (i : Nat) (h : i < src.size) (hc : l.contains (clsN (bt src (i : Int))) = true) : i < runEnd l src i := by
  rw [← runEnd_step l src i h hc]
  have := (runEnd_le l src (i + 1) (by omega)).1
  omega
theorem number_some (g i : Nat) (src : ByteArray) (xs : List S35) (w : World) (hL : Laid w) (hvalid : ∀ x : S35, ∃ K, lex_valid.f K x.f0 x.f1 x.f2 x.f3 = some (validB x)) (h : St g src w i xs) (hi : i ≤ src.size) (hs : src.size ≤ 65536) (hxs : xs.length ≤ 65536) (v : Int)
    (hn : numF (cut [3] src i) = some v) :
    Calls Tryd.prog 28 #[.pointer (some ⟨g, 0, none⟩)] w
      fun e w' => e = .returned (.tuple #[]) ∧ St g src w' (runEnd [3] src i) (xs ++ [⟨2, ⟨#[]⟩, v, (i : Int)⟩]) ∧ Below g w w' := by
  unfold numF at hn
  cases hE : Lib.atoiAll (cut [3] src i).data.toList with
  | ok u =>
    rw [hE] at hn
    simp only at hn
    split at hn
    · rename_i hc
      have e := Option.some.inj hn
      subst e
      obtain ⟨K, hK⟩ := hvalid ⟨2, ⟨#[]⟩, u, 0⟩
      rw [hc.2] at hK
      exact number_ok g i K src xs w hL h hi hs hxs u hE hc.1 hK
    · cases hn
  | _ => rw [hE] at hn; cases hn
theorem number_none (g i : Nat) (src : ByteArray) (xs : List S35) (w : World) (hL : Laid w) (hvalid : ∀ x : S35, ∃ K, lex_valid.f K x.f0 x.f1 x.f2 x.f3 = some (validB x)) (h : St g src w i xs) (hi : i ≤ src.size) (hs : src.size ≤ 65536)
    (hn : numF (cut [3] src i) = none) :
    Calls Tryd.prog 28 #[.pointer (some ⟨g, 0, none⟩)] w
      fun e w' => e = .panicked [{ v := .iface 42 (.int .i64 (i : Int)), recovered := false }] ∧ Below g w w' := by
  unfold numF at hn
  cases hE : Lib.atoiAll (cut [3] src i).data.toList with
  | ok u =>
    rw [hE] at hn
    simp only at hn
    split at hn
    · cases hn
    · rename_i hc
      by_cases hd : dec u = cut [3] src i
      · obtain ⟨K, hK⟩ := hvalid ⟨2, ⟨#[]⟩, u, 0⟩
        have hf : validB ⟨2, ⟨#[]⟩, u, 0⟩ = false := by
          cases hb : validB ⟨2, ⟨#[]⟩, u, 0⟩ with
          | true => exact absurd ⟨hd, hb⟩ hc
          | false => rfl
        rw [hf] at hK
        exact number_bad g i K src xs w hL h hi hs u hE hd hK
      · exact number_other g i src xs w hL h hi hs u hE hd
  | _ => exact number_err g i src xs w hL h hi hs (fun v => by rw [hE]; exact fun e => by cases e)
theorem wrong_St (g i : Nat) (src : ByteArray) (xs : List S35) (w : World) (h : St g src w i xs) :
    Calls Tryd.prog 25 #[.pointer (some ⟨g, 0, none⟩)] w
      fun e w' => e = .panicked [{ v := .iface 42 (.int .i64 (i : Int)), recovered := false }] ∧ Below g w w' := by
  obtain ⟨v, hg, _⟩ := h
  refine (wrong_calls g i src v w hg).mono ?_
  rintro e w' ⟨rfl, rfl⟩
  exact ⟨rfl, Below.refl _ _⟩
theorem one_list (src : ByteArray) (i : Nat) (hi : i < src.size) : (one src i).data.toList = [src.data.toList[i]'(by rw [data_length]; exact hi)] := by
  unfold one
  rw [ByteArray.data_extract, Array.toList_extract, List.extract_eq_take_drop, List.drop_eq_getElem_cons (by rw [data_length]; exact hi), show i + 1 - i = 1 by omega]
  rfl
theorem one_valid (src : ByteArray) (i : Nat) (hi : i < src.size) (hc : clsN (bt src (i : Int)) = 4) : validB ⟨3, one src i, 0, 0⟩ = true := by
  have h := bt_get src i hi
  rw [h] at hc
  unfold validB
  simp only [one_list src i hi, one_size src i hi]
  simpa using hc
theorem lineEnd_more (src : ByteArray) (i : Nat) (hi : i < src.size) (hsl : slashes src i = true) : i < lineEnd src i := by
  unfold slashes at hsl
  rw [extract_drop] at hsl
  unfold lineEnd
  rw [List.drop_eq_getElem_cons (by rw [data_length]; exact hi)] at hsl ⊢
  simp only [Lib.hasPrefix, List.isPrefixOf, Bool.and_eq_true, beq_iff_eq] at hsl
  rw [List.takeWhile_cons, ← hsl.1]
  simp
theorem lineEnd_le (src : ByteArray) (i : Nat) (hi : i ≤ src.size) : lineEnd src i ≤ src.size := by
  unfold lineEnd
  have h1 : ((src.data.toList.drop i).takeWhile fun c => c != 10).length ≤ (src.data.toList.drop i).length := (List.takeWhile_prefix _).length_le
  rw [List.length_drop, data_length] at h1
  omega
theorem cls_range (b : Int) : clsN b = 0 ∨ clsN b = 1 ∨ clsN b = 2 ∨ clsN b = 3 ∨ clsN b = 4 ∨ clsN b = 5 := by
  unfold clsN
  split
  · simp
  · split
    · simp
    · split
      · simp
      · split
        · simp
        · split <;> simp
theorem cls_other (b : Int) (h1 : ¬ clsN b = 1) (h2 : ¬ clsN b = 2) (h3 : ¬ clsN b = 3) (h4 : ¬ clsN b = 4) : clsN b = 0 ∨ clsN b = 5 := by
  have := cls_range b
  omega
theorem lex_out (n : Nat) (tmps : Array Value) (W : World) (v0 : Value) (a b : Int) (R : Ending → World → Prop)
    (t2 : tmps.getD 2 undef = .pointer (some ⟨n, 0, none⟩)) (t3 : tmps.getD 3 undef = .pointer (some ⟨n + 1, 0, none⟩)) (t4 : tmps.getD 4 undef = .pointer (some ⟨n + 1 + 1, 0, none⟩))
    (c0 : W.cell? ⟨n, 0, none⟩ = some v0) (c1 : W.cell? ⟨n + 1, 0, none⟩ = some (.int .i64 a)) (c2 : W.cell? ⟨n + 1 + 1, 0, none⟩ = some (.int .i64 b))
    (hR : R (.returned (.tuple #[v0, .int .i64 a, .int .i64 b])) W) : Leaves Tryd.prog Tryd.f12 tmps R [] .returning W := by
  refine ⟨_, ?_, hR⟩
  simp only [Array.getD_eq_getD_getElem?] at t2 t3 t4
  simp [results, Tryd.results12, go_sem, t2, t3, t4, c0, c1, c2]
/-- How Lex leaves by a panic of the scanner: its place is told. -/
theorem lex_panics {n i : Nat} {src : ByteArray} {w wr w' : World} {xs : List S35} {tmps : Array Value} {R : Ending → World → Prop} {p : Int} (HW : LexW n src w wr i xs) (hb4 : Below (n + 1 + 1 + 1 + 1) wr w')
    (t2 : tmps.getD 2 undef = .pointer (some ⟨n, 0, none⟩)) (t3 : tmps.getD 3 undef = .pointer (some ⟨n + 1, 0, none⟩)) (t4 : tmps.getD 4 undef = .pointer (some ⟨n + 1 + 1, 0, none⟩))
    (hR : ∀ W, Below n w W → R (.returned (.tuple #[.slice none 0 0, .int .i64 p, .int .i64 90])) W) :
    Leaves Tryd.prog Tryd.f12 tmps R [{ target := .fn (.func 24) #[.pointer (some ⟨n, 0, none⟩), .pointer (some ⟨n + 1, 0, none⟩), .pointer (some ⟨n + 1 + 1, 0, none⟩)], args := #[] }] (.panicking [{ v := .iface 42 (.int .i64 p), recovered := false }]) w' := by
  refine leaves_cons (f := 24) (args := #[.pointer (some ⟨n, 0, none⟩), .pointer (some ⟨n + 1, 0, none⟩), .pointer (some ⟨n + 1 + 1, 0, none⟩)]) (by simp) (by simp [go_sem]) ?_
  have y0 := (hb4.block _ (by omega)).trans HW.b0
  have y1 := (hb4.block _ (by omega)).trans HW.b1
  have y2 := (hb4.block _ (by omega)).trans HW.b2
  refine (catch_panicking n (n + 1) (n + 1 + 1) p _ _ _ w' ((blk_cell y0 0).trans rfl) ((blk_cell y1 0).trans rfl) ((blk_cell y2 0).trans rfl) (blk_frozen y0 0) (blk_frozen y1 0) (blk_frozen y2 0) (by omega) (by omega) (by omega)).mono ?_
  rintro e u' w'' ⟨rfl, rfl, rfl⟩
  have x0 := blk_drew (blk_far (p := ⟨n + 1 + 1, 0, none⟩) (blk_far (p := ⟨n + 1, 0, none⟩) (blk_set y0 0 (.slice none 0 0)) (by show n ≠ n + 1; omega) (.int .i64 p)) (by show n ≠ n + 1 + 1; omega) (.int .i64 90))
  have x1 := blk_drew (blk_far (p := ⟨n + 1 + 1, 0, none⟩) (blk_set (blk_far (p := ⟨n, 0, none⟩) y1 (by show n + 1 ≠ n; omega) (.slice none 0 0)) 0 (.int .i64 p)) (by show n + 1 ≠ n + 1 + 1; omega) (.int .i64 90))
  have x2 := blk_drew (blk_set (blk_far (p := ⟨n + 1, 0, none⟩) (blk_far (p := ⟨n, 0, none⟩) y2 (by show n + 1 + 1 ≠ n; omega) (.slice none 0 0)) (by show n + 1 + 1 ≠ n + 1; omega) (.int .i64 p)) 0 (.int .i64 90))
  exact lex_out n tmps _ (.slice none 0 0) p 90 R t2 t3 t4 ((blk_cell x0 0).trans rfl) ((blk_cell x1 0).trans rfl) ((blk_cell x2 0).trans rfl) (hR _ ((((((HW.below.trans (hb4.mono (by omega))).setCell (p := ⟨n, 0, none⟩) (Nat.le_refl _) _).setCell (p := ⟨n + 1, 0, none⟩) (by show n ≤ n + 1; omega) _).setCell (p := ⟨n + 1 + 1, 0, none⟩) (by show n ≤ n + 1 + 1; omega) _)).drew))
theorem tok_ne' (t : Nat) (h : (35 : Nat) ≠ t) : ∀ q, q ∈ 35 :: k35.E → q ≠ t := by
  intro q hq
  have e : k35.E = [] := rfl
  rw [e] at hq
  simp at hq
  omega
/-- How Lex returns. -/
theorem lex_returns {n i : Nat} {src : ByteArray} {w wr : World} {xs : List S35} {v0 : Value} {tmps : Array Value} {R : Ending → World → Prop} (HW : LexW n src w wr i xs) (hr : Kd.R k35 35 wr (n + 1 + 1 + 1 + 1) (fun _ => True) v0 xs)
    (t2 : tmps.getD 2 undef = .pointer (some ⟨n, 0, none⟩)) (t3 : tmps.getD 3 undef = .pointer (some ⟨n + 1, 0, none⟩)) (t4 : tmps.getD 4 undef = .pointer (some ⟨n + 1 + 1, 0, none⟩))
    (hR : ∀ W, Below n w W → Kd.R k35 35 W n (fun _ => True) v0 xs → R (.returned (.tuple #[v0, .int .i64 0, .int .i64 0])) W) :
    Leaves Tryd.prog Tryd.f12 tmps R [{ target := .fn (.func 24) #[.pointer (some ⟨n, 0, none⟩), .pointer (some ⟨n + 1, 0, none⟩), .pointer (some ⟨n + 1 + 1, 0, none⟩)], args := #[] }] .returning (((wr.setCell ⟨n, 0, none⟩ v0).setCell ⟨n + 1, 0, none⟩ (.int .i64 0)).setCell ⟨n + 1 + 1, 0, none⟩ (.int .i64 0)) := by
  refine leaves_cons (f := 24) (args := #[.pointer (some ⟨n, 0, none⟩), .pointer (some ⟨n + 1, 0, none⟩), .pointer (some ⟨n + 1 + 1, 0, none⟩)]) (by simp) (by simp [go_sem]) ?_
  refine (catch_idle _ _ _ _).mono ?_
  rintro e u' w'' ⟨rfl, rfl, rfl⟩
  have e0 := blk_set HW.b0 0 v0
  have e1 := blk_far (p := ⟨n, 0, none⟩) HW.b1 (by show n + 1 ≠ n; omega) v0
  have e2 := blk_far (p := ⟨n, 0, none⟩) HW.b2 (by show n + 1 + 1 ≠ n; omega) v0
  have d1 := blk_set e1 0 (.int .i64 0)
  have d2 := blk_far (p := ⟨n + 1, 0, none⟩) e2 (by show n + 1 + 1 ≠ n + 1; omega) (.int .i64 0)
  have x0 := blk_far (p := ⟨n + 1 + 1, 0, none⟩) (blk_far (p := ⟨n + 1, 0, none⟩) e0 (by show n ≠ n + 1; omega) (.int .i64 0)) (by show n ≠ n + 1 + 1; omega) (.int .i64 0)
  have x1 := blk_far (p := ⟨n + 1 + 1, 0, none⟩) d1 (by show n + 1 ≠ n + 1 + 1; omega) (.int .i64 0)
  have x2 := blk_set d2 0 (.int .i64 0)
  refine lex_out n tmps _ v0 0 0 R t2 t3 t4 ((blk_cell x0 0).trans rfl) ((blk_cell x1 0).trans rfl) ((blk_cell x2 0).trans rfl) (hR _ ?_ ?_)
  · exact (((HW.below.setCell (p := ⟨n, 0, none⟩) (Nat.le_refl _) _).setCell (p := ⟨n + 1, 0, none⟩) (by show n ≤ n + 1; omega) _).setCell (p := ⟨n + 1 + 1, 0, none⟩) (by show n ≤ n + 1 + 1; omega) _)
  · exact Kd.R_lower (Kd.R_set (Kd.R_set (Kd.R_set hr HW.b0 (tok_ne' _ (by decide)) 0 v0) e1 (tok_ne' _ (by decide)) 0 (.int .i64 0)) d2 (tok_ne' _ (by decide)) 0 (.int .i64 0)) (by omega)
set_option maxRecDepth 100000 in
theorem lex_long (src : ByteArray) (w : World) (hs : 65536 < src.size) :
    Calls Tryd.prog 12 #[.string src] w fun e w' => ∃ v0 : Value, e = .returned (.tuple #[v0, .int .i64 (lexF src).2.1, .int .i64 (lexF src).2.2]) ∧ Kd.R k35 35 w' w.heap.size (fun _ => True) v0 (lexF src).1 ∧ Below w.heap.size w w' := by
  have hsz : decide (65536 < src.size) = true := decide_eq_true (by omega)
  have hsi : decide ((65536 : Int) < (src.size : Int)) = true := decide_eq_true (by omega)
  have e : lexF src = ([], 0, 2) := by rw [lexF, if_pos (by omega)]
  rw [e]
  clear e
  go_enter_defers Tryd.func12, Tryd.ntmps12
  go_wp2
  have x0 := blk_alloc (blk_alloc (blk_new w (.cells #[.slice none 0 0] 23)) (.cells #[.int .i64 0] 3)) (.cells #[.int .i64 2] 24)
  have x1 : (((w.alloc (.cells #[.slice none 0 0] 23)).alloc (.cells #[.int .i64 0] 3)).alloc (.cells #[.int .i64 2] 24)).heap[w.heap.size + 1]? = some (.cells #[.int .i64 0] 3 (0, 0)) := blk_alloc (by simpa using blk_new (w.alloc _) _) _
  have x2 : (((w.alloc (.cells #[.slice none 0 0] 23)).alloc (.cells #[.int .i64 0] 3)).alloc (.cells #[.int .i64 2] 24)).heap[w.heap.size + 1 + 1]? = some (.cells #[.int .i64 2] 24 (0, 0)) := by simpa using blk_new ((w.alloc _).alloc _) _
  simp only [bodyPostD]
  refine lex_out w.heap.size _ _ (.slice none 0 0) 0 2 _ ?_ ?_ ?_ ((blk_cell x0 0).trans rfl) ((blk_cell x1 0).trans rfl) ((blk_cell x2 0).trans rfl) ?_
  · rfl
  · rfl
  · rfl
  · exact ⟨_, rfl, Kd.R_nil _ _ _ _ _, below_alloc (below_alloc (below_alloc (Below.refl _ _) _) _) _⟩
set_option maxHeartbeats 2000000 in
set_option maxRecDepth 100000 in
theorem lex_try (src : ByteArray) (w : World) (hL : Laid w) (hs : src.size ≤ 65536) (hvalid : ∀ x : S35, ∃ K, lex_valid.f K x.f0 x.f1 x.f2 x.f3 = some (validB x)) :
    Calls Tryd.prog 12 #[.string src] w fun e w' => ∃ v0 : Value, e = .returned (.tuple #[v0, .int .i64 (lexF src).2.1, .int .i64 (lexF src).2.2]) ∧ Kd.R k35 35 w' w.heap.size (fun _ => True) v0 (lexF src).1 ∧ Below w.heap.size w w' := by
  have hmf : ∀ (fn : Fn) (first cap : Array Value) (w : World), (Instr.makeFunc fn first cap).run Tryd.prog w = .ok (.func fn first cap) w := fun _ _ _ _ => rfl
  have hsz : decide (65536 < src.size) = false := decide_eq_false (by omega)
  have hsi : decide ((65536 : Int) < (src.size : Int)) = false := decide_eq_false (by omega)
  obtain ⟨R, hR⟩ : ∃ R, R = lexF src := ⟨_, rfl⟩
  have HR : Aside0 (fin [] (lexI src (src.size + 1) 0) = R) := ⟨by rw [hR, lexF, if_neg (by omega)]⟩
  rw [← hR]
  clear hR
  have HL := Aside0.mk hL
  have HVAL := Aside0.mk hvalid
  clear hL hvalid
  go_enter_defers Tryd.func12, Tryd.ntmps12
  go_wp2
  go_loopg [] (src.size + 1) (fun m wr => ∃ i xs, Aside0 (LexW w.heap.size src w wr i xs) ∧ Aside0 (i ≤ src.size ∧ xs.length ≤ i ∧ src.size < m + i ∧ fin xs (lexI src m i) = R))
  case atStart =>
    refine ⟨0, [], ⟨⟨?_, ?_, ?_, ?_, ?_, ⟨.slice none 0 0, ?_, Kd.R_nil _ _ _ _ _⟩⟩⟩, ⟨by omega, by simp, by omega, HR.out⟩⟩
    · exact blk_alloc (blk_alloc (blk_alloc (blk_alloc (blk_new w _) _) _) _) _
    · exact blk_alloc (blk_alloc (blk_alloc (by simpa using blk_new (w.alloc _) _) _) _) _
    · exact blk_alloc (blk_alloc (by simpa using blk_new ((w.alloc _).alloc _) _) _) _
    · exact blk_alloc (by simpa using blk_new (((w.alloc _).alloc _).alloc _) _) _
    · exact below_alloc (below_alloc (below_alloc (below_alloc (below_alloc (Below.refl _ _) _) _) _) _) _
    · simpa using blk_new ((((w.alloc _).alloc _).alloc _).alloc _) _
  case round =>
    obtain ⟨i, xs, HW, HA⟩ := hrel
    have hi := HA.out.1
    have hxs := HA.out.2.1
    have hgk := HA.out.2.2.1
    obtain ⟨v, hg, hr⟩ := HW.out.st
    obtain ⟨h0, h1, h2⟩ := cells3 hg
    obtain ⟨k0, k1, k2, k3, k4, k5⟩ := cells6 HW.out.b3
    have hq0 : wr.cell? ⟨w.heap.size, 0, none⟩ = some (.slice none 0 0) := (blk_cell HW.out.b0 0).trans rfl
    have hq1 : wr.cell? ⟨w.heap.size + 1, 0, none⟩ = some (.int .i64 0) := (blk_cell HW.out.b1 0).trans rfl
    have hq2 : wr.cell? ⟨w.heap.size + 1 + 1, 0, none⟩ = some (.int .i64 0) := (blk_cell HW.out.b2 0).trans rfl
    have z0 : wr.frozen? ⟨w.heap.size, 0, none⟩ = false := blk_frozen HW.out.b0 0
    have z1 : wr.frozen? ⟨w.heap.size + 1, 0, none⟩ = false := blk_frozen HW.out.b1 0
    have z2 : wr.frozen? ⟨w.heap.size + 1 + 1, 0, none⟩ = false := blk_frozen HW.out.b2 0
    have HRR := Aside0.mk hr
    have hglt := blk_lt hg
    clear hg hr
    cases gk with
    | zero => omega
    | succ m =>
      by_cases hlt : i < src.size
      · have hb := bt_range src (i : Int)
        have hb0 := hb.1
        have hb1 := hb.2
        have hx : ∀ h : i < src.size, ((src[i]'h).toNat : Int) = bt src (i : Int) := fun h => by simp [bt, h]
        have hltb : decide ((i : Int) < (src.size : Int)) = true := decide_eq_true (by omega)
        have hltc : decide (i < src.size) = true := decide_eq_true hlt
        have HF := HA.out.2.2.2
        unfold lexI at HF
        rw [if_pos hlt] at HF
        by_cases hc1 : clsN (bt src (i : Int)) = 1
        · rw [if_pos hc1] at HF
          have HFA := Aside0.mk HF
          have HC := Aside0.mk hc1
          have HM := Aside0.mk (runEnd_more [1] src i hlt (by rw [hc1]; rfl))
          have HE := runEnd_le [1] src i hi
          clear HF hc1 hb
          go_wp2_with (first | (go_at_call 30; refine (class_is _ 1 hb0 hb1 HC.out _).mono ?_; rintro e w' ⟨rfl, ⟨nd, rfl⟩⟩) | (go_at_call 26; refine (space_calls _ i src xs _ hi hs ?h).mono ?_; (case h => exact HW.out.st.below (pw_below_drewN (Below.refl _ _) _)); rintro e w' ⟨rfl, hst, hb⟩; have HST := Aside0.mk hst; have HB := Aside0.mk hb; clear hst hb))
          go_roundg m
          case measure => omega
          case rel => exact ⟨runEnd [1] src i, xs, ⟨HW.out.step HST.out ((pw_below_drewN (Below.refl wr.heap.size wr) _ |>.mono (Nat.le_of_lt hglt)).trans HB.out)⟩, ⟨by omega, by have := HM.out; omega, by have := HM.out; omega, HFA.out⟩⟩
        · rw [if_neg hc1] at HF
          by_cases hc2 : clsN (bt src (i : Int)) = 2
          · rw [if_pos hc2] at HF
            have HC := Aside0.mk hc2
            have HM := Aside0.mk (runEnd_more [2, 3, 5] src i hlt (by rw [hc2]; rfl))
            have HE := runEnd_le [2, 3, 5] src i hi
            obtain ⟨K, hK⟩ := HVAL.out ⟨1, cut [2, 3, 5] src i, 0, 0⟩
            by_cases hv : validB ⟨1, cut [2, 3, 5] src i, 0, 0⟩ = true
            · rw [if_pos hv] at HF
              rw [hv] at hK
              have HK := Aside0.mk hK
              have HFA := Aside0.mk HF
              clear HF hc1 hc2 hb hK hv
              go_wp2_with (first | (go_at_call 30; refine (class_is _ 2 hb0 hb1 HC.out _).mono ?_; rintro e w' ⟨rfl, ⟨nd, rfl⟩⟩) | (go_at_call 27; refine (name_ok _ i K src xs _ ?h hi hs (by omega) HK.out).mono ?_; (case h => exact HW.out.st.below (pw_below_drewN (Below.refl _ _) _)); rintro e w' ⟨rfl, hst, hb⟩; have HST := Aside0.mk hst; have HB := Aside0.mk hb; clear hst hb))
              go_roundg m
              case measure => omega
              case rel => exact ⟨runEnd [2, 3, 5] src i, _, ⟨HW.out.step HST.out ((pw_below_drewN (Below.refl wr.heap.size wr) _ |>.mono (Nat.le_of_lt hglt)).trans HB.out)⟩, ⟨by omega, by rw [List.length_append, List.length_singleton]; have := HM.out; omega, by have := HM.out; omega, by rw [← HFA.out]; simp [fin, con]⟩⟩
            · rw [if_neg hv] at HF
              rw [Bool.not_eq_true] at hv
              rw [hv] at hK
              have HK := Aside0.mk hK
              have HFA := Aside0.mk HF
              clear HF hc1 hc2 hb hK hv
              go_wp2_with (first | (go_at_call 30; refine (class_is _ 2 hb0 hb1 HC.out _).mono ?_; rintro e w' ⟨rfl, ⟨nd, rfl⟩⟩) | (go_at_call 27; refine (name_bad _ i K src xs _ ?h hi hs HK.out).mono ?_; (case h => exact HW.out.st.below (pw_below_drewN (Below.refl _ _) _)); rintro e w' ⟨rfl, hb⟩; have HB := Aside0.mk hb; clear hb))
              exact lex_panics HW.out ((pw_below_drewN (Below.refl wr.heap.size wr) _ |>.mono (Nat.le_of_lt hglt)).trans HB.out) rfl rfl rfl (fun W hW => by rw [← HFA.out]; exact ⟨_, rfl, Kd.R_nil _ _ _ _ _, hW⟩)
          · rw [if_neg hc2] at HF
            by_cases hc3 : clsN (bt src (i : Int)) = 3
            · rw [if_pos hc3] at HF
              have HC := Aside0.mk hc3
              have HM := Aside0.mk (runEnd_more [3] src i hlt (by rw [hc3]; rfl))
              have HE := runEnd_le [3] src i hi
              cases hn : numF (cut [3] src i) with
              | some v =>
                have HN := Aside0.mk hn
                rw [hn] at HF
                have HFA := Aside0.mk HF
                clear HF hc1 hc2 hc3 hb hn
                go_wp2_with (first | (go_at_call 30; refine (class_is _ 3 hb0 hb1 HC.out _).mono ?_; rintro e w' ⟨rfl, ⟨nd, rfl⟩⟩) | (go_at_call 28; refine (number_some _ i src xs _ ?hl HVAL.out ?h hi hs (by omega) v HN.out).mono ?_; (case hl => exact (HL.out.below HW.out.below).drewN _); (case h => exact HW.out.st.below (pw_below_drewN (Below.refl _ _) _)); rintro e w' ⟨rfl, hst, hb⟩; have HST := Aside0.mk hst; have HB := Aside0.mk hb; clear hst hb))
                go_roundg m
                case measure => omega
                case rel => exact ⟨runEnd [3] src i, _, ⟨HW.out.step HST.out ((pw_below_drewN (Below.refl wr.heap.size wr) _ |>.mono (Nat.le_of_lt hglt)).trans HB.out)⟩, ⟨by omega, by rw [List.length_append, List.length_singleton]; have := HM.out; omega, by have := HM.out; omega, by rw [← HFA.out]; simp [fin, con]⟩⟩
              | none =>
                have HN := Aside0.mk hn
                rw [hn] at HF
                have HFA := Aside0.mk HF
                clear HF hc1 hc2 hc3 hb hn
                go_wp2_with (first | (go_at_call 30; refine (class_is _ 3 hb0 hb1 HC.out _).mono ?_; rintro e w' ⟨rfl, ⟨nd, rfl⟩⟩) | (go_at_call 28; refine (number_none _ i src xs _ ?hl HVAL.out ?h hi hs HN.out).mono ?_; (case hl => exact (HL.out.below HW.out.below).drewN _); (case h => exact HW.out.st.below (pw_below_drewN (Below.refl _ _) _)); rintro e w' ⟨rfl, hb⟩; have HB := Aside0.mk hb; clear hb))
                exact lex_panics HW.out ((pw_below_drewN (Below.refl wr.heap.size wr) _ |>.mono (Nat.le_of_lt hglt)).trans HB.out) rfl rfl rfl (fun W hW => by rw [← HFA.out]; exact ⟨_, rfl, Kd.R_nil _ _ _ _ _, hW⟩)
            · rw [if_neg hc3] at HF
              by_cases hc4 : clsN (bt src (i : Int)) = 4
              · rw [if_pos hc4] at HF
                have HC := Aside0.mk hc4
                cases hsl : slashes src i with
                | true =>
                  rw [hsl, if_pos rfl] at HF
                  have HSL := Aside0.mk hsl
                  have HM := Aside0.mk (lineEnd_more src i hlt hsl)
                  have HE := lineEnd_le src i hi
                  have HFA := Aside0.mk HF
                  clear HF hc1 hc2 hc3 hc4 hb hsl
                  go_wp2_with (first | (go_at_call 30; refine (class_is _ 4 hb0 hb1 HC.out _).mono ?_; rintro e w' ⟨rfl, ⟨nd, rfl⟩⟩) | (go_at_call 29; refine (sign_comment _ i src xs _ ?h hlt hs HSL.out).mono ?_; (case h => exact HW.out.st.below (pw_below_drewN (Below.refl _ _) _)); rintro e w' ⟨rfl, hst, hb⟩; have HST := Aside0.mk hst; have HB := Aside0.mk hb; clear hst hb))
                  go_roundg m
                  case measure => omega
                  case rel => exact ⟨lineEnd src i, xs, ⟨HW.out.step HST.out ((pw_below_drewN (Below.refl wr.heap.size wr) _ |>.mono (Nat.le_of_lt hglt)).trans HB.out)⟩, ⟨by omega, by have := HM.out; omega, by have := HM.out; omega, HFA.out⟩⟩
                | false =>
                  rw [hsl, if_neg (by decide)] at HF
                  obtain ⟨K, hK⟩ := HVAL.out ⟨3, one src i, 0, 0⟩
                  rw [one_valid src i hlt hc4] at hK
                  have HK := Aside0.mk hK
                  have HSL := Aside0.mk hsl
                  have HM := Aside0.mk (Nat.lt_succ_self i)
                  have HFA := Aside0.mk HF
                  clear HF hc1 hc2 hc3 hc4 hb hsl hK
                  go_wp2_with (first | (go_at_call 30; refine (class_is _ 4 hb0 hb1 HC.out _).mono ?_; rintro e w' ⟨rfl, ⟨nd, rfl⟩⟩) | (go_at_call 29; refine (sign_ok _ i K src xs _ ?h hlt hs (by omega) HSL.out HK.out).mono ?_; (case h => exact HW.out.st.below (pw_below_drewN (Below.refl _ _) _)); rintro e w' ⟨rfl, hst, hb⟩; have HST := Aside0.mk hst; have HB := Aside0.mk hb; clear hst hb))
                  go_roundg m
                  case measure => omega
                  case rel => exact ⟨i + 1, _, ⟨HW.out.step HST.out ((pw_below_drewN (Below.refl wr.heap.size wr) _ |>.mono (Nat.le_of_lt hglt)).trans HB.out)⟩, ⟨by omega, by rw [List.length_append, List.length_singleton]; omega, by have := HM.out; omega, by rw [← HFA.out]; simp [fin, con]⟩⟩
              · rw [if_neg hc4] at HF
                have HFA := Aside0.mk HF
                rcases cls_other _ hc1 hc2 hc3 hc4 with hc | hc
                · have HC := Aside0.mk hc
                  clear HF hc1 hc2 hc3 hc4 hb hc
                  go_wp2_with (first | (go_at_call 30; refine (class_is _ 0 hb0 hb1 HC.out _).mono ?_; rintro e w' ⟨rfl, ⟨nd, rfl⟩⟩) | (go_at_call 25; refine (wrong_St _ i src xs _ ?h).mono ?_; (case h => exact HW.out.st.below (pw_below_drewN (Below.refl _ _) _)); rintro e w' ⟨rfl, hb⟩; have HB := Aside0.mk hb; clear hb))
                  exact lex_panics HW.out ((pw_below_drewN (Below.refl wr.heap.size wr) _ |>.mono (Nat.le_of_lt hglt)).trans HB.out) rfl rfl rfl (fun W hW => by rw [← HFA.out]; exact ⟨_, rfl, Kd.R_nil _ _ _ _ _, hW⟩)
                · have HC := Aside0.mk hc
                  clear HF hc1 hc2 hc3 hc4 hb hc
                  go_wp2_with (first | (go_at_call 30; refine (class_is _ 5 hb0 hb1 HC.out _).mono ?_; rintro e w' ⟨rfl, ⟨nd, rfl⟩⟩) | (go_at_call 25; refine (wrong_St _ i src xs _ ?h).mono ?_; (case h => exact HW.out.st.below (pw_below_drewN (Below.refl _ _) _)); rintro e w' ⟨rfl, hb⟩; have HB := Aside0.mk hb; clear hb))
                  exact lex_panics HW.out ((pw_below_drewN (Below.refl wr.heap.size wr) _ |>.mono (Nat.le_of_lt hglt)).trans HB.out) rfl rfl rfl (fun W hW => by rw [← HFA.out]; exact ⟨_, rfl, Kd.R_nil _ _ _ _ _, hW⟩)
      · have HF := HA.out.2.2.2
        unfold lexI at HF
        rw [if_neg hlt] at HF
        have HFA := Aside0.mk HF
        have hltb : decide ((i : Int) < (src.size : Int)) = false := decide_eq_false (by omega)
        have hltc : decide (i < src.size) = false := decide_eq_false hlt
        clear HF
        obtain ⟨A1, c1, rfl⟩ := Kd.R_slice HRR.out
        go_wp2
        exact lex_returns HW.out HRR.out rfl rfl rfl (fun W hW hR => by rw [← HFA.out]; exact ⟨_, rfl, by simpa [fin] using hR, hW⟩)
end Go.Proofs.YtpgjacoinldfhaaDoor.Q
end
