/- What the laws of layer 16 do. -/
import Derived.Test.YtnfmgojloahfkaaS16
namespace Go.Proofs.Ytnfmgojloahfkaa
open Go.RowKit
set_option linter.unusedVariables false
set_option linter.unusedSimpArgs false

def doF (p : Pol) (t : Tsk) (o0 o1 o2 o3 o4 _o5 o6 n : Int) : Tsk × Int :=
  if o0 = 0 then takeF p t o1 n else if o0 = 1 then beatF p t o2 n else if o0 = 2 then tellF p t o2 o3 o4 n o6 else if o0 = 3 then lostF p t n else if o0 = 4 then stopF p t else tickF p t n
theorem doF_else {p : Pol} {t : Tsk} {o0 o1 o2 o3 o4 o5 o6 n : Int} (h0 : (o0 == 0) = false) (h1 : (o0 == 1) = false) (h2 : (o0 == 2) = false) (h3 : (o0 == 3) = false) (h4 : (o0 == 4) = false) : doF p t o0 o1 o2 o3 o4 o5 o6 n = tickF p t n := by
  simp only [beq_eq_false_iff_ne, ne_eq] at *; simp [doF, *]
end Go.Proofs.Ytnfmgojloahfkaa
