import Derived.Test.YtlghmadoogblcaaPWxal
namespace Go.Proofs.Ytlghmadoogblcaa.Alive
open Go.RowKit Go.Proofs.Ytlghmadoogblcaa.PW Go.Proofs.YtlghmadoogblcaaW.PrintWords Go.Proofs.YtlghmadoogblcaaW.PrintLast Go.Proofs.YtlghmadoogblcaaW.PrintMore
set_option maxRecDepth 100000

theorem alive_true : vivariumlaw02_alive.f 100 = some true := by decide +kernel

end Go.Proofs.Ytlghmadoogblcaa.Alive
