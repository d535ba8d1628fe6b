/- The law HelloBack, its five ways joined. -/
import Derived.Test.YtildhamfnfifjaaHelloL
set_option maxRecDepth 100000
namespace Go.Proofs.Ytildhamfnfifjaa
open Go.RowKit
theorem back_walk (x : Int) (a b c d : Nat) (ha : a ≤ 4294967295) (hb : b ≤ 4294967295) (hc : c ≤ 4294967295) (hd : d ≤ 4294967295) (l : List UInt8) (hm : l.length ≤ maxLen) (w : World) :
    Calls Try.prog 4 #[.agg #[.int .i64 x, .int .u32 a, .int .u32 b, .int .u32 c, .int .u32 d], .string (str l)] w fun e w' => e = .returned (.bool true) ∧ Below w.heap.size w w' := by
  by_cases hl : 300 < l.length
  · exact back_long x a b c d l hl hm w
  cases hr : rightB x a b with
  | false =>
    rcases read_cases l (by omega) with ⟨y, p, q, r, s, hp, hq, hr', hs, hy, rfl⟩ | ⟨n, hn, hk⟩
    · exact back_no_some x a b c d hr y p q r s hp hq hr' hs hy w
    · exact back_no_none x a b c d l (by omega) hr n hn hk w
  | true =>
    have hx : 0 ≤ x := by simp [rightB, isNode] at hr; omega
    obtain ⟨k, rfl⟩ := Int.eq_ofNat_of_zero_le hx
    rcases read_cases l (by omega) with ⟨y, p, q, r, s, hp, hq, hr', hs, hy, rfl⟩ | ⟨n, hn, hk⟩
    · exact back_yes_some k a b c d ha hb hc hd hr y p q r s hp hq hr' hs hy w
    · exact back_yes_none k a b c d ha hb hc hd l (by omega) hr n hn hk w
end Go.Proofs.Ytildhamfnfifjaa
