/-
  AncestorsOf, DoorsUnder, DoorsOf.
-/
import Derived.Test.YtebegkegkdmbjaaDoorFBld3
namespace Go.Proofs.YtebegkegkdmbjaaDoor
open B Go.RowKit






end Go.Proofs.YtebegkegkdmbjaaDoor
