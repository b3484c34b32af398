/- An outcome told otherwise. -/
import Derived.Test.YtomeffnlmefnlaaGvH
namespace Go.Gv
open Go
theorem LV.to {P : Program} {o : Oper} {f : Env} {w : World} {v v' : Value} (h : v = v') (l : LV P o f w v) : LV P o f w v' := h ▸ l
end Go.Gv
