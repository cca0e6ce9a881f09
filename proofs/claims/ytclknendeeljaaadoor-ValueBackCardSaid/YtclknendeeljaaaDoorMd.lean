/- A framework of our own for walks over the model: Md. -/
import Derived.Test.YtclknendeeljaaaDoorMa
import Derived.Test.YtclknendeeljaaaDoorCe
namespace Go.Proofs.YtclknendeeljaaaDoor.K
section
variable {α : Type} {f g : Nat → α} {n i : Nat} {d : α}
end
end Go.Proofs.YtclknendeeljaaaDoor.K
