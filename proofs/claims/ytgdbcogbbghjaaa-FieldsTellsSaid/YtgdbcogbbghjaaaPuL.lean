import Derived.Test.YtgdbcogbbghjaaaQOp
namespace Go.Proofs.Ytgdbcogbbghjaaa.Op
open Go.RowKit Go.Proofs.Ytgdbcogbbghjaaa.Q Go.Proofs.YtgdbcogbbghjaaaW.PrintWords Go.Proofs.YtgdbcogbbghjaaaW.PrintLast
theorem len27 {H : Type} {enc : TypeId × Value → H} {w : World} {fuel : Nat} {A0 A1 A2 A3 A4 : Option Addr} {n0 n1 n2 n3 n4 c0 c1 c2 c3 c4 : Nat} {x : DataW H × List MemPlace}
    (h : DataW.trod enc Try.prog w 0 (fun _ => true) true fuel 27 [.slice A0 n0 c0, .slice A1 n1 c1, .slice A2 n2 c2, .slice A3 n3 c3, .slice A4 n4 c4] = some x) : n1 ≤ 9223372036854775807 := by
  obtain ⟨xs, n, rfl, rfl, hl, hlen, hf⟩ := DataW.trod_struct Try.underlying27 h
  obtain ⟨y1, e1⟩ := field_of hlen hf 1 _ rfl (sz := 1) (by exact cellsOf22)
  rcases DataW.trod_slice Try.underlying22 e1 with ⟨h, _⟩ | ⟨a, len, cap, _, _, _, _, h, _, _, hl, hm, _⟩
  · have e : Value.slice A1 n1 c1 = .slice none 0 0 := List.cons.inj h |>.1
    injection e with _ e _
    omega
  · have e : Value.slice A1 n1 c1 = .slice (some a) len cap := List.cons.inj h |>.1
    injection e with _ e _
    have : maxLen = 9223372036854775807 := by decide
    omega
end Go.Proofs.Ytgdbcogbbghjaaa.Op
