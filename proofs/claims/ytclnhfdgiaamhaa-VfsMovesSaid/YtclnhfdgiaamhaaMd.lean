/- A framework of our own for walks over the model: Md. -/
import Derived.Test.YtclnhfdgiaamhaaMa
import Derived.Test.YtclnhfdgiaamhaaCe
namespace Go.Proofs.Ytclnhfdgiaamhaa.K
section
variable {α : Type} {f g : Nat → α} {n i : Nat} {d : α}
end
end Go.Proofs.Ytclnhfdgiaamhaa.K
