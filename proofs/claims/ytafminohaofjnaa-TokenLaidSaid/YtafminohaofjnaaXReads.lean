/- The example is read. -/
import Derived.Test.YtafminohaofjnaaF15
namespace Go.Proofs.Ytafminohaofjnaa.Print
theorem reads_f : hearsaylaw08_reads.f = some true := by decide +kernel
end Go.Proofs.Ytafminohaofjnaa.Print
