/- What the frames of layer 16's laws need. No condition. -/
import Derived.Test.YtonhliipbdniiaaPmL4
import Derived.Test.YtonhliipbdniiaaNodIn
namespace Go.Proofs.Ytonhliipbdniiaa
theorem framed16 : True := trivial
end Go.Proofs.Ytonhliipbdniiaa
