/-
  HeightOf.
-/
import Derived.Test.YtebegkegkdmbjaaDoorFBld4
import Derived.Test.YtebegkegkdmbjaaDoorCut
namespace Go.Proofs.YtebegkegkdmbjaaDoor
open B Go.RowKit


end Go.Proofs.YtebegkegkdmbjaaDoor
