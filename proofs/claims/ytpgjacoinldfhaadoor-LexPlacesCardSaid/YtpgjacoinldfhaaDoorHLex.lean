/- The contract of lex.Lex in the form that the printed callers ask. -/
import Derived.Test.YtpgjacoinldfhaaDoorQ0
import Derived.Test.YtpgjacoinldfhaaDoorLexV
namespace Go.Proofs.YtpgjacoinldfhaaDoor.Q
open Go.RowKit Go.Proofs.YtpgjacoinldfhaaDoorW.PrintWords Go.Proofs.YtpgjacoinldfhaaDoorW.PrintLast Go.Proofs.YtpgjacoinldfhaaDoorW.PrintMore
def lex_Lex.f (a0 : ByteArray) : Option (List (S35) × Int × Int) := some (lexF a0)
theorem lex_Lex.calls (a0 : ByteArray) (r1 : List (S35)) (r2 : Int) (r3 : Int) (w : World) (hL_ : Laid w) (h : lex_Lex.f a0 = some (r1, r2, r3)) :
    Calls Tryd.prog 12 #[.string a0] w fun e w' => ∃ v0_ : Value, e = .returned (.tuple #[v0_, .int .i64 r2, .int .i64 r3]) ∧ Kd.R k35 35 w' w.heap.size (fun _ => True) v0_ r1 ∧ Below w.heap.size w w' := by
  have e := Option.some.inj h
  by_cases hs : a0.size ≤ 65536
  · have := lex_try a0 w hL_ hs (fun x => ⟨50, valid_some x⟩)
    rw [e] at this
    exact this
  · have := lex_long a0 w (by omega)
    rw [e] at this
    exact this
end Go.Proofs.YtpgjacoinldfhaaDoor.Q
