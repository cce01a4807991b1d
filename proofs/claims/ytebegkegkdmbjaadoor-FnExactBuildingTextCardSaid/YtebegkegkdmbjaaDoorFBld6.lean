/-
  CommonGroup.
-/
import Derived.Test.YtebegkegkdmbjaaDoorFBld5
namespace Go.Proofs.YtebegkegkdmbjaaDoor
open B Go.RowKit


end Go.Proofs.YtebegkegkdmbjaaDoor
