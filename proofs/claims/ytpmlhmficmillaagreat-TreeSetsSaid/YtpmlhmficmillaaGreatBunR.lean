/- A row of the call's own stays where nothing below was changed. No condition. -/
import Derived.Test.YtpmlhmficmillaaGreatBunOW
namespace Go.Proofs.YtpmlhmficmillaaGreat
open Go.RowKit
theorem own_below {w w' : World} {base e k n : Nat} {v : Value} {xs : List Value} (h2 : w.ownsRow base e k v n xs) (hb : Below w.heap.size w w') : w'.ownsRow base e k v n xs := by
  refine ⟨h2.1, ?_⟩
  rcases h2.2 with h3 | ⟨g, cap, cur, hv, hg, hh, r⟩
  · exact .inl h3
  · exact .inr ⟨g, cap, cur, hv, hg, (hb.block g (lt_of_block hh)).trans hh, r⟩
end Go.Proofs.YtpmlhmficmillaaGreat
