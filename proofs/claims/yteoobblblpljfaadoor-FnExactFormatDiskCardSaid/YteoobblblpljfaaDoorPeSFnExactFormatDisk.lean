import Derived.Test.YteoobblblpljfaaDoorPeStrip
import Derived.Test.YteoobblblpljfaaDoorRows
import Derived.KernelRfl
namespace Go.Proofs.YteoobblblpljfaaDoor.Pe.FnExactFormatDisk
open Go
end Go.Proofs.YteoobblblpljfaaDoor.Pe.FnExactFormatDisk
