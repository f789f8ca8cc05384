/- What the frames of layer 16's laws need. No condition. -/
import Derived.Test.YtonhliipbdniiaaPmL7
import Derived.Test.YtonhliipbdniiaaNodIn
namespace Go.Proofs.Ytonhliipbdniiaa
theorem framed16b : True := trivial
end Go.Proofs.Ytonhliipbdniiaa
