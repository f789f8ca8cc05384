/- What the frames of layer 16's laws need. No condition. -/
import Derived.Test.YtonhliipbdniiaaPmL5
import Derived.Test.YtonhliipbdniiaaNodIn
namespace Go.Proofs.Ytonhliipbdniiaa
theorem framed16c : True := trivial
end Go.Proofs.Ytonhliipbdniiaa
