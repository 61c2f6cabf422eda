/- The law AluLess, as its walk wants it. -/
import Derived.Test.YtoecmleficekbaaDoorLess
import Derived.Test.YtoecmleficekbaaDoorAmH
namespace Go.Proofs.YtoecmleficekbaaDoor
open Go.RowKit Am
theorem lessFacts (s : ByteArray) (c k : Cp) (n : Int) (hc : c.Ok) (hk : k.Ok) (hn0 : -2147483648 ≤ n) (hn1 : n < 2147483648) (h1 : (aluR s.toList c k n).isSome = true) (h2 : not' (aluG s.toList c k n).tag = false) : Below9 s.toList c k (aluG s.toList c k n) :=
  aluR_below hc hk hn0 hn1 (aluG_some h1) (by simpa using h2)
end Go.Proofs.YtoecmleficekbaaDoor
