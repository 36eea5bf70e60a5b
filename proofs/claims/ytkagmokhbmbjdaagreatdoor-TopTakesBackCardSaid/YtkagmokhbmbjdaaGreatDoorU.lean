/-
  The law over plain data: true at all inputs. Conditions: none.
-/
import Derived.Test.YtkagmokhbmbjdaaGreatDoorV
import Derived.Test.YtkagmokhbmbjdaaGreatDoorFxC
namespace Go.Fx.D
open Go Go.Fx
set_option linter.unusedVariables false
set_option linter.unusedSimpArgs false
set_option maxRecDepth 1000000
def isT:Option Bool→Bool
 | some true=>true
 | _=>false
theorem pc{o:Option Bool}(h:isT o=true):o=some true:=by
 match o,h with
 | some true,_=>rfl
theorem Ls{x:Int}(h1:-9223372036854775808≤x)(h2:x<9223372036854775808):w64 x=x:=by simp only[w64,IntKind.wrap,IntKind.bits,IntKind.signed];simp;omega
theorem aY{a n:Int}(h0:0<n)(h1:n≤4611686018427387904):av a n=some (a % n):=by
 unfold av
 have hn:nz n=some ():=by unfold nz;rw[if_pos (by omega)]
 rw[hn]
 have hm:Int.tmod a n=if 0≤a∨n ∣ a then a % n else a % n - n:=by
  rw[Int.tmod_eq_emod]
  split<;>simp[Int.natAbs_of_nonneg (Int.le_of_lt h0)]
 have e0:=Int.emod_nonneg a (show n≠0 by omega)
 have e1:=Int.emod_lt_of_pos a h0;simp only[LO,Bool.cond_eq_ite,decide_eq_true_eq];rw[hm];by_cases hc:0≤a∨n ∣ a
 ·rw[if_pos hc,if_neg (by omega)];rfl
 ·rw[if_neg hc,if_pos (by omega),Ls (by omega) (by omega)]
  simp only[LO,Option.some.injEq];omega
theorem fh{a n:Int}(h0:0<n)(h1:n≤4611686018427387904):av a n=av (a % n) n:=by rw[aY h0 h1,aY h0 h1,Int.emod_emod]
end Go.Fx.D
