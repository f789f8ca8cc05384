/- Texts are equal byte by byte. No condition. -/
import Derived.Test.YtpmlhmficmillaaGreatBunA
namespace Go.Proofs.YtpmlhmficmillaaGreat
theorem str_beq (s t : ByteArray) : (s.toList == t.toList) = decide (s = t) := by
  rw [ByteArray.toList_eq, ByteArray.toList_eq]
  by_cases h : s = t
  · subst h; simp
  · have h2 : ¬ s.data = t.data := fun e => h (ByteArray.ext e)
    simp [h, h2]
end Go.Proofs.YtpmlhmficmillaaGreat
