/- A walk that knows values as trees: make, parts of slices, conversions, cells of boxes at any index. -/
import Derived.Test.YtaeelcfjkhfpkaaGreatFDNq
set_option linter.unusedVariables false
set_option linter.unusedSimpArgs false
namespace Go.Proofs.YtaeelcfjkhfpkaaGreat
open Go.RowKit
section
variable {P:Program} {C:Cx} {σ σ':St} {o:Oper} {d:Tmp} {ops:Array Oper} {rest:List Oper} {Q:Exit→St→Prop}
theorem DK.ldr {rows:List (List AV)} {i j:Nat} {r:List AV} {av:AV} (hd:dstD C.N ops σ o=some d)(h:ldrV P (σ.only (o.looksAt ops)) o.op=some (rows,i,j))(hi:rows[i]?=some r)(hj:r[j]?=some av)(ho2:av.own=false)(k:DK P C ops rest (σ.put d av) Q):DK P C ops (o::rest) σ Q:=DK.vl hd (ldrV_of h hi hj ho2) k
end
end Go.Proofs.YtaeelcfjkhfpkaaGreat
