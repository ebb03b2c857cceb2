/- The walks of path.Parent and path.Under. -/
import Derived.Test.YtfdclifdemajfaaDoorPathJoin
namespace Go.Proofs.YtfdclifdemajfaaDoor.Path
set_option linter.unusedVariables false
open Go.RowKit Oct

theorem strs_form {w : World} {v : Value} {ps : List ByteArray} (h : Strs w v ps) : ∃ ao cap, v = .slice ao ps.length cap := by
  rcases strs_cases h with ⟨ao, c, rfl, rfl⟩ | ⟨b, off, cap, rfl, _⟩
  · exact ⟨ao, c, rfl⟩
  · exact ⟨_, _, rfl⟩

def underB (a b : List UInt8) : Bool := decide (splitE a = 0) && decide (splitE b = 0) && (decide (namesL a = []) || decide (a = b) || (a ++ [47]).isPrefixOf b)

/-- What Parent answers. -/
def parE (l : List UInt8) : Int := if splitE l = 0 then (if namesL l = [] then 2 else 0) else splitE l
def parD (l : List UInt8) : List (List UInt8) := if parE l = 0 then (namesL l).dropLast else []
def parN (l : List UInt8) : List UInt8 := if parE l = 0 then (namesL l).getLastD [] else []
def ParentRes (l : List UInt8) (w : World) (e : Ending) (w' : World) : Prop :=
  ∃ v, e = .returned (.tuple #[v, .string (B (parN l)), .int .i64 (parE l)]) ∧ Strs w' v ((parD l).map B) ∧ Below w.heap.size w w'

end Go.Proofs.YtfdclifdemajfaaDoor.Path
