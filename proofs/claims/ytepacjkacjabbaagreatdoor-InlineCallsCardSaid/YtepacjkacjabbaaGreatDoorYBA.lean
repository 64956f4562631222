import Derived.Test.YtepacjkacjabbaaGreatDoorYAW
import Derived.Test.YtepacjkacjabbaaGreatDoorYAX
import Derived.Test.YtepacjkacjabbaaGreatDoorYAY
set_option linter.all false
namespace Go.Proofs.YtepacjkacjabbaaGreatDoor
open Go Go.Maps Go.RowKit
theorem Ce{P:Program}{fn:Func}{p u:Tmp}{ty:TypeId}(h:fn.results=#[.cell p ty,.tmp u])(tmps:Array Value)(w:World)(g:Nat)(t:TypeId)(cs:Array Value)(fr:Nat × Nat)(d:TypeDesc)
  (hp:tmps.getD p undef=.pointer (some ⟨g,0,none⟩)) (O:w.heap[g]?=some (.cells cs t fr))
  (U:P.underlying ty=some d) (D:(match d with|.struct _|.array _ _=>true|_=>false)=true) (hi:(P.info? ty).map (·.size)=some cs.size) :
  (results fn tmps).run P w=.ok (.tuple #[.agg cs,tmps.getD u undef]) w:=by
 rw[results_cell_tmp h,hp];simp[asAddr,run_loadVar_row w g t ty cs fr d O U D hi,Result.andThen]
end Go.Proofs.YtepacjkacjabbaaGreatDoor
