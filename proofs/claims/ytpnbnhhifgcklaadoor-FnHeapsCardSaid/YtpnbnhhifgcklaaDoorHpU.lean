/- The walk of the exact law of HeapText. -/
import Derived.Test.YtpnbnhhifgcklaaDoorHpT
namespace Go.Proofs.YtpnbnhhifgcklaaDoor
open Go.ChangeShapes Go.WideShapes Go.ChangeAt Go.RowKit Go.Deep
set_option maxRecDepth 100000
end Go.Proofs.YtpnbnhhifgcklaaDoor
