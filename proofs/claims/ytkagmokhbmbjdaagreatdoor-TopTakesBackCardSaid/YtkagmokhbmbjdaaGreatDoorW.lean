/-
  The law over plain data: true at all inputs. Conditions: none.
-/
import Derived.Test.YtkagmokhbmbjdaaGreatDoorU0
import Derived.Test.YtkagmokhbmbjdaaGreatDoorU1
import Derived.Test.YtkagmokhbmbjdaaGreatDoorU2
import Derived.Test.YtkagmokhbmbjdaaGreatDoorU3
import Derived.Test.YtkagmokhbmbjdaaGreatDoorU4
import Derived.Test.YtkagmokhbmbjdaaGreatDoorU5
import Derived.Test.YtkagmokhbmbjdaaGreatDoorU6
import Derived.Test.YtkagmokhbmbjdaaGreatDoorU7
import Derived.Test.YtkagmokhbmbjdaaGreatDoorU8
import Derived.Test.YtkagmokhbmbjdaaGreatDoorU9
import Derived.Test.YtkagmokhbmbjdaaGreatDoorU10
import Derived.Test.YtkagmokhbmbjdaaGreatDoorU11
import Derived.Test.YtkagmokhbmbjdaaGreatDoorU12
import Derived.Test.YtkagmokhbmbjdaaGreatDoorU13
import Derived.Test.YtkagmokhbmbjdaaGreatDoorU14
import Derived.Test.YtkagmokhbmbjdaaGreatDoorU15
import Derived.Test.YtkagmokhbmbjdaaGreatDoorU16
import Derived.Test.YtkagmokhbmbjdaaGreatDoorU17
import Derived.Test.YtkagmokhbmbjdaaGreatDoorU18
import Derived.Test.YtkagmokhbmbjdaaGreatDoorU19
import Derived.Test.YtkagmokhbmbjdaaGreatDoorU20
import Derived.Test.YtkagmokhbmbjdaaGreatDoorU21
import Derived.Test.YtkagmokhbmbjdaaGreatDoorU22
import Derived.Test.YtkagmokhbmbjdaaGreatDoorU23
import Derived.Test.YtkagmokhbmbjdaaGreatDoorU24
import Derived.Test.YtkagmokhbmbjdaaGreatDoorU25
import Derived.Test.YtkagmokhbmbjdaaGreatDoorU26
import Derived.Test.YtkagmokhbmbjdaaGreatDoorU27
import Derived.Test.YtkagmokhbmbjdaaGreatDoorU28
import Derived.Test.YtkagmokhbmbjdaaGreatDoorU29
import Derived.Test.YtkagmokhbmbjdaaGreatDoorU30
import Derived.Test.YtkagmokhbmbjdaaGreatDoorU31
import Derived.Test.YtkagmokhbmbjdaaGreatDoorU32
import Derived.Test.YtkagmokhbmbjdaaGreatDoorU33
import Derived.Test.YtkagmokhbmbjdaaGreatDoorU34
import Derived.Test.YtkagmokhbmbjdaaGreatDoorU35
import Derived.Test.YtkagmokhbmbjdaaGreatDoorU36
import Derived.Test.YtkagmokhbmbjdaaGreatDoorU37
import Derived.Test.YtkagmokhbmbjdaaGreatDoorU38
import Derived.Test.YtkagmokhbmbjdaaGreatDoorU39
import Derived.Test.YtkagmokhbmbjdaaGreatDoorFxC
namespace Go.Fx.D
open Go Go.Fx
set_option linter.unusedVariables false
set_option linter.unusedSimpArgs false
set_option maxRecDepth 1000000
theorem pick{g:Bool→Bool}(h:g true=true)(k:g false=true)(f:Bool):g f=true:=by
 cases f
 ·exact k
 ·exact h
theorem tb0(n:Nat)(f:Bool)(h:n<2):isT (aa 0 (n:Int) f)=true:=by
 match n,h with
 | 0,_=>exact pick (g:=λf=>isT (aa 0 ((0:Nat):Int) f)) KV K5 f
 | 1,_=>exact pick (g:=λf=>isT (aa 0 ((1:Nat):Int) f)) KS J4 f
 | n+2,h=>omega
theorem tbP0(units wanted:Int)(first:Bool)(h:units % 8=0):ak units wanted first=some true:=by
 have e:ak units wanted first=ak 0 (wanted % 2) first:=by
  unfold ak
  rw[show av units 8=some 0 by rw[aY (by omega) (by omega),h],show av 0 8=some 0 from by rw[aY (by omega) (by omega)];rfl]
  simp only[LO]
  rw[show(w64 ((w64 (Int.tdiv (w64 (2*(w64 (3+0)))) 2)) - 1))=2 from by rfl,fh (a:=wanted) (n:=2) (by omega) (by omega)]
 rw[e]
 have v0:0≤wanted % 2∧wanted % 2<2:=by omega
 generalize wanted % 2=A at *
 have h:=tb0 A.toNat first (by omega)
 rw[Int.toNat_of_nonneg v0.1]at h;exact(aH _ _ _).ok true (pc h)
theorem tb1(n:Nat)(f:Bool)(h:n<3):isT (aa 1 (n:Int) f)=true:=by
 match n,h with
 | 0,_=>exact pick (g:=λf=>isT (aa 1 ((0:Nat):Int) f)) Ll Kn f
 | 1,_=>exact pick (g:=λf=>isT (aa 1 ((1:Nat):Int) f)) J2 Kc f
 | 2,_=>exact pick (g:=λf=>isT (aa 1 ((2:Nat):Int) f)) Kt K2 f
 | n+3,h=>omega
theorem tbP1(units wanted:Int)(first:Bool)(h:units % 8=1):ak units wanted first=some true:=by
 have e:ak units wanted first=ak 1 (wanted % 3) first:=by
  unfold ak
  rw[show av units 8=some 1 by rw[aY (by omega) (by omega),h],show av 1 8=some 1 from by rw[aY (by omega) (by omega)];rfl]
  simp only[LO]
  rw[show(w64 ((w64 (Int.tdiv (w64 (2*(w64 (3+1)))) 2)) - 1))=3 from by rfl,fh (a:=wanted) (n:=3) (by omega) (by omega)]
 rw[e]
 have v0:0≤wanted % 3∧wanted % 3<3:=by omega
 generalize wanted % 3=A at *
 have h:=tb1 A.toNat first (by omega)
 rw[Int.toNat_of_nonneg v0.1]at h;exact(aH _ _ _).ok true (pc h)
theorem tb2(n:Nat)(f:Bool)(h:n<4):isT (aa 2 (n:Int) f)=true:=by
 match n,h with
 | 0,_=>exact pick (g:=λf=>isT (aa 2 ((0:Nat):Int) f)) Lc Kh f
 | 1,_=>exact pick (g:=λf=>isT (aa 2 ((1:Nat):Int) f)) Kj KE f
 | 2,_=>exact pick (g:=λf=>isT (aa 2 ((2:Nat):Int) f)) KT K_ f
 | 3,_=>exact pick (g:=λf=>isT (aa 2 ((3:Nat):Int) f)) JX Ko f
 | n+4,h=>omega
theorem tbP2(units wanted:Int)(first:Bool)(h:units % 8=2):ak units wanted first=some true:=by
 have e:ak units wanted first=ak 2 (wanted % 4) first:=by
  unfold ak
  rw[show av units 8=some 2 by rw[aY (by omega) (by omega),h],show av 2 8=some 2 from by rw[aY (by omega) (by omega)];rfl]
  simp only[LO]
  rw[show(w64 ((w64 (Int.tdiv (w64 (2*(w64 (3+2)))) 2)) - 1))=4 from by rfl,fh (a:=wanted) (n:=4) (by omega) (by omega)]
 rw[e]
 have v0:0≤wanted % 4∧wanted % 4<4:=by omega
 generalize wanted % 4=A at *
 have h:=tb2 A.toNat first (by omega)
 rw[Int.toNat_of_nonneg v0.1]at h;exact(aH _ _ _).ok true (pc h)
theorem tb3(n:Nat)(f:Bool)(h:n<5):isT (aa 3 (n:Int) f)=true:=by
 match n,h with
 | 0,_=>exact pick (g:=λf=>isT (aa 3 ((0:Nat):Int) f)) Lt K9 f
 | 1,_=>exact pick (g:=λf=>isT (aa 3 ((1:Nat):Int) f)) Ki LD f
 | 2,_=>exact pick (g:=λf=>isT (aa 3 ((2:Nat):Int) f)) La KA f
 | 3,_=>exact pick (g:=λf=>isT (aa 3 ((3:Nat):Int) f)) KN J_ f
 | 4,_=>exact pick (g:=λf=>isT (aa 3 ((4:Nat):Int) f)) Ky Kg f
 | n+5,h=>omega
theorem tbP3(units wanted:Int)(first:Bool)(h:units % 8=3):ak units wanted first=some true:=by
 have e:ak units wanted first=ak 3 (wanted % 5) first:=by
  unfold ak
  rw[show av units 8=some 3 by rw[aY (by omega) (by omega),h],show av 3 8=some 3 from by rw[aY (by omega) (by omega)];rfl]
  simp only[LO]
  rw[show(w64 ((w64 (Int.tdiv (w64 (2*(w64 (3+3)))) 2)) - 1))=5 from by rfl,fh (a:=wanted) (n:=5) (by omega) (by omega)]
 rw[e]
 have v0:0≤wanted % 5∧wanted % 5<5:=by omega
 generalize wanted % 5=A at *
 have h:=tb3 A.toNat first (by omega)
 rw[Int.toNat_of_nonneg v0.1]at h;exact(aH _ _ _).ok true (pc h)
theorem tb4(n:Nat)(f:Bool)(h:n<6):isT (aa 4 (n:Int) f)=true:=by
 match n,h with
 | 0,_=>exact pick (g:=λf=>isT (aa 4 ((0:Nat):Int) f)) KL KZ f
 | 1,_=>exact pick (g:=λf=>isT (aa 4 ((1:Nat):Int) f)) LH Kv f
 | 2,_=>exact pick (g:=λf=>isT (aa 4 ((2:Nat):Int) f)) Lp Lk f
 | 3,_=>exact pick (g:=λf=>isT (aa 4 ((3:Nat):Int) f)) KH Km f
 | 4,_=>exact pick (g:=λf=>isT (aa 4 ((4:Nat):Int) f)) Lv Kf f
 | 5,_=>exact pick (g:=λf=>isT (aa 4 ((5:Nat):Int) f)) Lf JZ f
 | n+6,h=>omega
theorem tbP4(units wanted:Int)(first:Bool)(h:units % 8=4):ak units wanted first=some true:=by
 have e:ak units wanted first=ak 4 (wanted % 6) first:=by
  unfold ak
  rw[show av units 8=some 4 by rw[aY (by omega) (by omega),h],show av 4 8=some 4 from by rw[aY (by omega) (by omega)];rfl]
  simp only[LO]
  rw[show(w64 ((w64 (Int.tdiv (w64 (2*(w64 (3+4)))) 2)) - 1))=6 from by rfl,fh (a:=wanted) (n:=6) (by omega) (by omega)]
 rw[e]
 have v0:0≤wanted % 6∧wanted % 6<6:=by omega
 generalize wanted % 6=A at *
 have h:=tb4 A.toNat first (by omega)
 rw[Int.toNat_of_nonneg v0.1]at h;exact(aH _ _ _).ok true (pc h)
theorem tb5(n:Nat)(f:Bool)(h:n<7):isT (aa 5 (n:Int) f)=true:=by
 match n,h with
 | 0,_=>exact pick (g:=λf=>isT (aa 5 ((0:Nat):Int) f)) LC Kp f
 | 1,_=>exact pick (g:=λf=>isT (aa 5 ((1:Nat):Int) f)) K8 Ku f
 | 2,_=>exact pick (g:=λf=>isT (aa 5 ((2:Nat):Int) f)) Kw K4 f
 | 3,_=>exact pick (g:=λf=>isT (aa 5 ((3:Nat):Int) f)) Kr JU f
 | 4,_=>exact pick (g:=λf=>isT (aa 5 ((4:Nat):Int) f)) Ke KI f
 | 5,_=>exact pick (g:=λf=>isT (aa 5 ((5:Nat):Int) f)) K0 Lh f
 | 6,_=>exact pick (g:=λf=>isT (aa 5 ((6:Nat):Int) f)) Lq Lb f
 | n+7,h=>omega
theorem tbP5(units wanted:Int)(first:Bool)(h:units % 8=5):ak units wanted first=some true:=by
 have e:ak units wanted first=ak 5 (wanted % 7) first:=by
  unfold ak
  rw[show av units 8=some 5 by rw[aY (by omega) (by omega),h],show av 5 8=some 5 from by rw[aY (by omega) (by omega)];rfl]
  simp only[LO]
  rw[show(w64 ((w64 (Int.tdiv (w64 (2*(w64 (3+5)))) 2)) - 1))=7 from by rfl,fh (a:=wanted) (n:=7) (by omega) (by omega)]
 rw[e]
 have v0:0≤wanted % 7∧wanted % 7<7:=by omega
 generalize wanted % 7=A at *
 have h:=tb5 A.toNat first (by omega)
 rw[Int.toNat_of_nonneg v0.1]at h;exact(aH _ _ _).ok true (pc h)
theorem tb6(n:Nat)(f:Bool)(h:n<8):isT (aa 6 (n:Int) f)=true:=by
 match n,h with
 | 0,_=>exact pick (g:=λf=>isT (aa 6 ((0:Nat):Int) f)) J5 LF f
 | 1,_=>exact pick (g:=λf=>isT (aa 6 ((1:Nat):Int) f)) Lu KD f
 | 2,_=>exact pick (g:=λf=>isT (aa 6 ((2:Nat):Int) f)) Kb Lj f
 | 3,_=>exact pick (g:=λf=>isT (aa 6 ((3:Nat):Int) f)) J0 KW f
 | 4,_=>exact pick (g:=λf=>isT (aa 6 ((4:Nat):Int) f)) KJ KF f
 | 5,_=>exact pick (g:=λf=>isT (aa 6 ((5:Nat):Int) f)) KM Lr f
 | 6,_=>exact pick (g:=λf=>isT (aa 6 ((6:Nat):Int) f)) LE Kz f
 | 7,_=>exact pick (g:=λf=>isT (aa 6 ((7:Nat):Int) f)) Li Ln f
 | n+8,h=>omega
theorem tbP6(units wanted:Int)(first:Bool)(h:units % 8=6):ak units wanted first=some true:=by
 have e:ak units wanted first=ak 6 (wanted % 8) first:=by
  unfold ak
  rw[show av units 8=some 6 by rw[aY (by omega) (by omega),h],show av 6 8=some 6 from by rw[aY (by omega) (by omega)];rfl]
  simp only[LO]
  rw[show(w64 ((w64 (Int.tdiv (w64 (2*(w64 (3+6)))) 2)) - 1))=8 from by rfl,fh (a:=wanted) (n:=8) (by omega) (by omega)]
 rw[e]
 have v0:0≤wanted % 8∧wanted % 8<8:=by omega
 generalize wanted % 8=A at *
 have h:=tb6 A.toNat first (by omega)
 rw[Int.toNat_of_nonneg v0.1]at h;exact(aH _ _ _).ok true (pc h)
theorem tb7(n:Nat)(f:Bool)(h:n<9):isT (aa 7 (n:Int) f)=true:=by
 match n,h with
 | 0,_=>exact pick (g:=λf=>isT (aa 7 ((0:Nat):Int) f)) Ld Kq f
 | 1,_=>exact pick (g:=λf=>isT (aa 7 ((1:Nat):Int) f)) LK KC f
 | 2,_=>exact pick (g:=λf=>isT (aa 7 ((2:Nat):Int) f)) Ly KG f
 | 3,_=>exact pick (g:=λf=>isT (aa 7 ((3:Nat):Int) f)) KX JY f
 | 4,_=>exact pick (g:=λf=>isT (aa 7 ((4:Nat):Int) f)) J1 K7 f
 | 5,_=>exact pick (g:=λf=>isT (aa 7 ((5:Nat):Int) f)) J8 J3 f
 | 6,_=>exact pick (g:=λf=>isT (aa 7 ((6:Nat):Int) f)) LA JW f
 | 7,_=>exact pick (g:=λf=>isT (aa 7 ((7:Nat):Int) f)) Kx KK f
 | 8,_=>exact pick (g:=λf=>isT (aa 7 ((8:Nat):Int) f)) LI Lw f
 | n+9,h=>omega
theorem tbP7(units wanted:Int)(first:Bool)(h:units % 8=7):ak units wanted first=some true:=by
 have e:ak units wanted first=ak 7 (wanted % 9) first:=by
  unfold ak
  rw[show av units 8=some 7 by rw[aY (by omega) (by omega),h],show av 7 8=some 7 from by rw[aY (by omega) (by omega)];rfl]
  simp only[LO]
  rw[show(w64 ((w64 (Int.tdiv (w64 (2*(w64 (3+7)))) 2)) - 1))=9 from by rfl,fh (a:=wanted) (n:=9) (by omega) (by omega)]
 rw[e]
 have v0:0≤wanted % 9∧wanted % 9<9:=by omega
 generalize wanted % 9=A at *
 have h:=tb7 A.toNat first (by omega)
 rw[Int.toNat_of_nonneg v0.1]at h;exact(aH _ _ _).ok true (pc h)
theorem yt(units:Int)(wanted:Int)(first:Bool)(w0:WfT fam (.int .i64) units)(w1:WfT fam (.int .i64) wanted)(w2:WfT fam .bool first):ak units wanted first=some true:=by
 have u0:0≤units % 8∧units % 8<8:=by omega
 rcases(by omega:units % 8=0∨units % 8=1∨units % 8=2∨units % 8=3∨units % 8=4∨units % 8=5∨units % 8=6∨units % 8=7)with h | h | h | h | h | h | h | h
 ·exact tbP0 units wanted first h
 ·exact tbP1 units wanted first h
 ·exact tbP2 units wanted first h
 ·exact tbP3 units wanted first h
 ·exact tbP4 units wanted first h
 ·exact tbP5 units wanted first h
 ·exact tbP6 units wanted first h
 ·exact tbP7 units wanted first h
end Go.Fx.D
