/-
  How an argument that is an api.Addr is opened. Conditions: none.
-/
import Derived.Test.YtgpijomnnnjgkaaOpenRec
import Derived.Test.YtgpijomnnnjgkaaOpenSc
namespace Go.Proofs.Ytgpijomnnnjgkaa
open Go.ChangeShapes Go.WideShapes Go.ChangeAt Go.RowKit Go.Deep

theorem open_Ad {H : Type} {enc : TypeId × Value → H} {W : World} {b0 : TypeId} {r : Reach} {v : Value} {d : DataW H} {p : List MemPlace}
    (hv : Value.okWide Try.prog W r b0 31 v) (h : DataW.Trod enc Try.prog W 0 (fun _ => true) true 31 v d p) : ∃ x : Ad, v = .agg #[.int .i8 x.1, .int .u16 x.2.1, .int .u16 x.2.2.1, .int .u16 x.2.2.2.1, .int .u16 x.2.2.2.2.1, .int .u16 x.2.2.2.2.2.1, .int .u16 x.2.2.2.2.2.2.1, .int .u16 x.2.2.2.2.2.2.2.1, .int .u16 x.2.2.2.2.2.2.2.2.1, .int .i64 x.2.2.2.2.2.2.2.2.2] ∧ okAd x :=
  open_Rec Try.underlying31 dec_Ad hv h
end Go.Proofs.Ytgpijomnnnjgkaa
