/- What the steps do on each ground of the size that Grown makes: one number of blocks, one phase. -/
import Derived.Test.YtadhdjldcpkfiaaGreatDoorGr
import Derived.Test.YtadhdjldcpkfiaaGreatDoorT8
namespace Go.Proofs.YtadhdjldcpkfiaaGreatDoor
set_option linter.unusedVariables false
set_option linter.unusedSimpArgs false
open Go.RowKit
set_option maxRecDepth 100000

def exT (p : Int) : GM Bool := grow2 >>= fun o => tiTurn >>= fun _ => tiBegin p >>= fun b => taStep >>= fun d => tiAt >>= fun x => pure (decide (o = true) && (decide (b = true) && (decide (d = decide (p = 1)) && (d || (decide (x.1 = 0) && decide (x.2 = 0))))))
def exFloodP (p : Int) : GM Bool := grow2 >>= fun o => tiBegin p >>= fun b => flStep >>= fun d => pure (decide (o = true) && (decide (b = true) && decide (d = decide (p = 2))))
def exReapP (p : Int) : GM Bool := grow2 >>= fun o => tiBegin p >>= fun b => rpStep >>= fun d => pure (decide (o = true) && (decide (b = true) && decide (d = decide (p = 3))))
def ex3 (p N : Int) : Bool := (exT p (gsNew N 16 1 1)).1 && ((exFloodP p (gsNew N 16 1 1)).1 && (exReapP p (gsNew N 16 1 1)).1)
def ex12 (N : Int) : Bool := ex3 0 N && (ex3 1 N && (ex3 2 N && ex3 3 N))
end Go.Proofs.YtadhdjldcpkfiaaGreatDoor
