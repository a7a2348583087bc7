/- Snap: SnapSame's walk, as the row wants it. -/
import Derived.Test.YtpcfceodbemooaaS10
import Derived.Test.YtpcfceodbemooaaOpenS
namespace Go.Proofs.Ytpcfceodbemooaa.B
open Go.RowKit Go.Proofs.YtpcfceodbemooaaW.PrintWords Go.Proofs.YtpcfceodbemooaaW.PrintLast Go.Proofs.YtpcfceodbemooaaW.PrintMore Go.Proofs.Ytpcfceodbemooaa.PSnapBytes
theorem lawSameR (ha : Sh) (a : St) (hb : Sh) (b : St) (w : World) (ra : RdS w ha a) (ba : a.Bd ML) (rb : RdS w hb b) (_ : b.Bd ML) :
    Calls Try.prog 6 #[.agg #[.int .i64 a.tick, .slice ha.A1 a.accts.length ha.c1, .slice ha.A2 a.bil.length ha.c2, .slice ha.A3 a.mul.length ha.c3, .slice ha.A4 a.pos.length ha.c4, .slice ha.A5 a.prices.length ha.c5, .slice ha.A6 a.holds.length ha.c6, .slice ha.A7 a.pays.length ha.c7, .slice ha.A8 a.ids.length ha.c8, .int .i64 a.total, .bool a.over], .agg #[.int .i64 b.tick, .slice hb.A1 b.accts.length hb.c1, .slice hb.A2 b.bil.length hb.c2, .slice hb.A3 b.mul.length hb.c3, .slice hb.A4 b.pos.length hb.c4, .slice hb.A5 b.prices.length hb.c5, .slice hb.A6 b.holds.length hb.c6, .slice hb.A7 b.pays.length hb.c7, .slice hb.A8 b.ids.length hb.c8, .int .i64 b.total, .bool b.over]] w fun e w' => e = .returned (.bool true) ∧ Below w.heap.size w w' :=
  lawSame ha hb a b ML w ra rb (Nat.le_refl _) ba
end Go.Proofs.Ytpcfceodbemooaa.B
