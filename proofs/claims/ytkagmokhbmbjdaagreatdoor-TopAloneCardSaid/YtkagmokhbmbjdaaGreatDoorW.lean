/-
  The law over plain data: true at all inputs. Conditions: none.
-/
import Derived.Test.YtkagmokhbmbjdaaGreatDoorU0
import Derived.Test.YtkagmokhbmbjdaaGreatDoorU1
import Derived.Test.YtkagmokhbmbjdaaGreatDoorU2
import Derived.Test.YtkagmokhbmbjdaaGreatDoorU3
import Derived.Test.YtkagmokhbmbjdaaGreatDoorU4
import Derived.Test.YtkagmokhbmbjdaaGreatDoorU5
import Derived.Test.YtkagmokhbmbjdaaGreatDoorU6
import Derived.Test.YtkagmokhbmbjdaaGreatDoorU7
import Derived.Test.YtkagmokhbmbjdaaGreatDoorU8
import Derived.Test.YtkagmokhbmbjdaaGreatDoorU9
import Derived.Test.YtkagmokhbmbjdaaGreatDoorU10
import Derived.Test.YtkagmokhbmbjdaaGreatDoorU11
import Derived.Test.YtkagmokhbmbjdaaGreatDoorU12
import Derived.Test.YtkagmokhbmbjdaaGreatDoorU13
import Derived.Test.YtkagmokhbmbjdaaGreatDoorU14
import Derived.Test.YtkagmokhbmbjdaaGreatDoorU15
import Derived.Test.YtkagmokhbmbjdaaGreatDoorU16
import Derived.Test.YtkagmokhbmbjdaaGreatDoorU17
import Derived.Test.YtkagmokhbmbjdaaGreatDoorU18
import Derived.Test.YtkagmokhbmbjdaaGreatDoorU19
import Derived.Test.YtkagmokhbmbjdaaGreatDoorU20
import Derived.Test.YtkagmokhbmbjdaaGreatDoorU21
import Derived.Test.YtkagmokhbmbjdaaGreatDoorU22
import Derived.Test.YtkagmokhbmbjdaaGreatDoorU23
import Derived.Test.YtkagmokhbmbjdaaGreatDoorU24
import Derived.Test.YtkagmokhbmbjdaaGreatDoorU25
import Derived.Test.YtkagmokhbmbjdaaGreatDoorU26
import Derived.Test.YtkagmokhbmbjdaaGreatDoorU27
import Derived.Test.YtkagmokhbmbjdaaGreatDoorU28
import Derived.Test.YtkagmokhbmbjdaaGreatDoorU29
import Derived.Test.YtkagmokhbmbjdaaGreatDoorU30
import Derived.Test.YtkagmokhbmbjdaaGreatDoorU31
import Derived.Test.YtkagmokhbmbjdaaGreatDoorU32
import Derived.Test.YtkagmokhbmbjdaaGreatDoorU33
import Derived.Test.YtkagmokhbmbjdaaGreatDoorU34
import Derived.Test.YtkagmokhbmbjdaaGreatDoorU35
import Derived.Test.YtkagmokhbmbjdaaGreatDoorU36
import Derived.Test.YtkagmokhbmbjdaaGreatDoorU37
import Derived.Test.YtkagmokhbmbjdaaGreatDoorU38
import Derived.Test.YtkagmokhbmbjdaaGreatDoorU39
import Derived.Test.YtkagmokhbmbjdaaGreatDoorFxC
namespace Go.Fx.D
open Go Go.Fx
set_option linter.unusedVariables false
set_option linter.unusedSimpArgs false
set_option maxRecDepth 1000000
theorem pick{g:Nat→Bool}(h:((List.range 4).all λb=>g b)=true)(k:((List.range 4).all λb=>g (b+4))=true)(b:Nat)(hb:b<8):g b=true:=by
 simp only[List.all_eq_true,List.mem_range]at h k;by_cases c:b<4
 ·exact h b c
 ·have:=k (b - 4) (by omega)
  rwa [show b - 4+4=b by omega]at this
theorem al0(a b:Nat)(h:a<8)(hb:b<8):isT (aa (a:Nat) (b:Nat) ((0:Nat):Int))=true:=by
 match a,h with
 | 0,_=>exact pick (g:=λb=>isT (aa ((0:Nat):Int) (b:Nat) ((0:Nat):Int))) EB FQ b hb
 | 1,_=>exact pick (g:=λb=>isT (aa ((1:Nat):Int) (b:Nat) ((0:Nat):Int))) Fg FU b hb
 | 2,_=>exact pick (g:=λb=>isT (aa ((2:Nat):Int) (b:Nat) ((0:Nat):Int))) D_ GJ b hb
 | 3,_=>exact pick (g:=λb=>isT (aa ((3:Nat):Int) (b:Nat) ((0:Nat):Int))) GF Fz b hb
 | 4,_=>exact pick (g:=λb=>isT (aa ((4:Nat):Int) (b:Nat) ((0:Nat):Int))) Gw F5 b hb
 | 5,_=>exact pick (g:=λb=>isT (aa ((5:Nat):Int) (b:Nat) ((0:Nat):Int))) Fd FW b hb
 | 6,_=>exact pick (g:=λb=>isT (aa ((6:Nat):Int) (b:Nat) ((0:Nat):Int))) E5 FB b hb
 | 7,_=>exact pick (g:=λb=>isT (aa ((7:Nat):Int) (b:Nat) ((0:Nat):Int))) Fq Ef b hb
 | n+8,h=>omega
theorem al1(a b:Nat)(h:a<8)(hb:b<8):isT (aa (a:Nat) (b:Nat) ((1:Nat):Int))=true:=by
 match a,h with
 | 0,_=>exact pick (g:=λb=>isT (aa ((0:Nat):Int) (b:Nat) ((1:Nat):Int))) F3 F2 b hb
 | 1,_=>exact pick (g:=λb=>isT (aa ((1:Nat):Int) (b:Nat) ((1:Nat):Int))) F_ FH b hb
 | 2,_=>exact pick (g:=λb=>isT (aa ((2:Nat):Int) (b:Nat) ((1:Nat):Int))) EE F0 b hb
 | 3,_=>exact pick (g:=λb=>isT (aa ((3:Nat):Int) (b:Nat) ((1:Nat):Int))) Gl Et b hb
 | 4,_=>exact pick (g:=λb=>isT (aa ((4:Nat):Int) (b:Nat) ((1:Nat):Int))) EA F4 b hb
 | 5,_=>exact pick (g:=λb=>isT (aa ((5:Nat):Int) (b:Nat) ((1:Nat):Int))) Em D5 b hb
 | 6,_=>exact pick (g:=λb=>isT (aa ((6:Nat):Int) (b:Nat) ((1:Nat):Int))) Ea D4 b hb
 | 7,_=>exact pick (g:=λb=>isT (aa ((7:Nat):Int) (b:Nat) ((1:Nat):Int))) GH Gf b hb
 | n+8,h=>omega
theorem al2(a b:Nat)(h:a<8)(hb:b<8):isT (aa (a:Nat) (b:Nat) ((2:Nat):Int))=true:=by
 match a,h with
 | 0,_=>exact pick (g:=λb=>isT (aa ((0:Nat):Int) (b:Nat) ((2:Nat):Int))) FP EN b hb
 | 1,_=>exact pick (g:=λb=>isT (aa ((1:Nat):Int) (b:Nat) ((2:Nat):Int))) FX Gc b hb
 | 2,_=>exact pick (g:=λb=>isT (aa ((2:Nat):Int) (b:Nat) ((2:Nat):Int))) Fs DT b hb
 | 3,_=>exact pick (g:=λb=>isT (aa ((3:Nat):Int) (b:Nat) ((2:Nat):Int))) GM Fj b hb
 | 4,_=>exact pick (g:=λb=>isT (aa ((4:Nat):Int) (b:Nat) ((2:Nat):Int))) GE FD b hb
 | 5,_=>exact pick (g:=λb=>isT (aa ((5:Nat):Int) (b:Nat) ((2:Nat):Int))) Fe Eu b hb
 | 6,_=>exact pick (g:=λb=>isT (aa ((6:Nat):Int) (b:Nat) ((2:Nat):Int))) DW D7 b hb
 | 7,_=>exact pick (g:=λb=>isT (aa ((7:Nat):Int) (b:Nat) ((2:Nat):Int))) D1 EW b hb
 | n+8,h=>omega
theorem al3(a b:Nat)(h:a<8)(hb:b<8):isT (aa (a:Nat) (b:Nat) ((3:Nat):Int))=true:=by
 match a,h with
 | 0,_=>exact pick (g:=λb=>isT (aa ((0:Nat):Int) (b:Nat) ((3:Nat):Int))) GW Ez b hb
 | 1,_=>exact pick (g:=λb=>isT (aa ((1:Nat):Int) (b:Nat) ((3:Nat):Int))) D9 GX b hb
 | 2,_=>exact pick (g:=λb=>isT (aa ((2:Nat):Int) (b:Nat) ((3:Nat):Int))) Fi Fc b hb
 | 3,_=>exact pick (g:=λb=>isT (aa ((3:Nat):Int) (b:Nat) ((3:Nat):Int))) Fb Gv b hb
 | 4,_=>exact pick (g:=λb=>isT (aa ((4:Nat):Int) (b:Nat) ((3:Nat):Int))) EQ EO b hb
 | 5,_=>exact pick (g:=λb=>isT (aa ((5:Nat):Int) (b:Nat) ((3:Nat):Int))) D2 Fy b hb
 | 6,_=>exact pick (g:=λb=>isT (aa ((6:Nat):Int) (b:Nat) ((3:Nat):Int))) Gz ED b hb
 | 7,_=>exact pick (g:=λb=>isT (aa ((7:Nat):Int) (b:Nat) ((3:Nat):Int))) D6 E8 b hb
 | n+8,h=>omega
theorem al4(a b:Nat)(h:a<8)(hb:b<8):isT (aa (a:Nat) (b:Nat) ((4:Nat):Int))=true:=by
 match a,h with
 | 0,_=>exact pick (g:=λb=>isT (aa ((0:Nat):Int) (b:Nat) ((4:Nat):Int))) FG Gx b hb
 | 1,_=>exact pick (g:=λb=>isT (aa ((1:Nat):Int) (b:Nat) ((4:Nat):Int))) E4 GC b hb
 | 2,_=>exact pick (g:=λb=>isT (aa ((2:Nat):Int) (b:Nat) ((4:Nat):Int))) Ft EL b hb
 | 3,_=>exact pick (g:=λb=>isT (aa ((3:Nat):Int) (b:Nat) ((4:Nat):Int))) EH DY b hb
 | 4,_=>exact pick (g:=λb=>isT (aa ((4:Nat):Int) (b:Nat) ((4:Nat):Int))) Gs GV b hb
 | 5,_=>exact pick (g:=λb=>isT (aa ((5:Nat):Int) (b:Nat) ((4:Nat):Int))) D8 F7 b hb
 | 6,_=>exact pick (g:=λb=>isT (aa ((6:Nat):Int) (b:Nat) ((4:Nat):Int))) FM Er b hb
 | 7,_=>exact pick (g:=λb=>isT (aa ((7:Nat):Int) (b:Nat) ((4:Nat):Int))) DZ ES b hb
 | n+8,h=>omega
theorem al5(a b:Nat)(h:a<8)(hb:b<8):isT (aa (a:Nat) (b:Nat) ((5:Nat):Int))=true:=by
 match a,h with
 | 0,_=>exact pick (g:=λb=>isT (aa ((0:Nat):Int) (b:Nat) ((5:Nat):Int))) GU Gy b hb
 | 1,_=>exact pick (g:=λb=>isT (aa ((1:Nat):Int) (b:Nat) ((5:Nat):Int))) EM EU b hb
 | 2,_=>exact pick (g:=λb=>isT (aa ((2:Nat):Int) (b:Nat) ((5:Nat):Int))) GT FZ b hb
 | 3,_=>exact pick (g:=λb=>isT (aa ((3:Nat):Int) (b:Nat) ((5:Nat):Int))) D3 Gk b hb
 | 4,_=>exact pick (g:=λb=>isT (aa ((4:Nat):Int) (b:Nat) ((5:Nat):Int))) EC F9 b hb
 | 5,_=>exact pick (g:=λb=>isT (aa ((5:Nat):Int) (b:Nat) ((5:Nat):Int))) Fh DQ b hb
 | 6,_=>exact pick (g:=λb=>isT (aa ((6:Nat):Int) (b:Nat) ((5:Nat):Int))) Gt DX b hb
 | 7,_=>exact pick (g:=λb=>isT (aa ((7:Nat):Int) (b:Nat) ((5:Nat):Int))) EI F8 b hb
 | n+8,h=>omega
theorem al6(a b:Nat)(h:a<8)(hb:b<8):isT (aa (a:Nat) (b:Nat) ((6:Nat):Int))=true:=by
 match a,h with
 | 0,_=>exact pick (g:=λb=>isT (aa ((0:Nat):Int) (b:Nat) ((6:Nat):Int))) GY FL b hb
 | 1,_=>exact pick (g:=λb=>isT (aa ((1:Nat):Int) (b:Nat) ((6:Nat):Int))) EP GS b hb
 | 2,_=>exact pick (g:=λb=>isT (aa ((2:Nat):Int) (b:Nat) ((6:Nat):Int))) FE Eg b hb
 | 3,_=>exact pick (g:=λb=>isT (aa ((3:Nat):Int) (b:Nat) ((6:Nat):Int))) Gg GI b hb
 | 4,_=>exact pick (g:=λb=>isT (aa ((4:Nat):Int) (b:Nat) ((6:Nat):Int))) Fu Ec b hb
 | 5,_=>exact pick (g:=λb=>isT (aa ((5:Nat):Int) (b:Nat) ((6:Nat):Int))) Fm Ei b hb
 | 6,_=>exact pick (g:=λb=>isT (aa ((6:Nat):Int) (b:Nat) ((6:Nat):Int))) Fa EX b hb
 | 7,_=>exact pick (g:=λb=>isT (aa ((7:Nat):Int) (b:Nat) ((6:Nat):Int))) F6 EG b hb
 | n+8,h=>omega
theorem al7(a b:Nat)(h:a<8)(hb:b<8):isT (aa (a:Nat) (b:Nat) ((7:Nat):Int))=true:=by
 match a,h with
 | 0,_=>exact pick (g:=λb=>isT (aa ((0:Nat):Int) (b:Nat) ((7:Nat):Int))) GD E7 b hb
 | 1,_=>exact pick (g:=λb=>isT (aa ((1:Nat):Int) (b:Nat) ((7:Nat):Int))) Ed Fp b hb
 | 2,_=>exact pick (g:=λb=>isT (aa ((2:Nat):Int) (b:Nat) ((7:Nat):Int))) GB FV b hb
 | 3,_=>exact pick (g:=λb=>isT (aa ((3:Nat):Int) (b:Nat) ((7:Nat):Int))) E3 Gj b hb
 | 4,_=>exact pick (g:=λb=>isT (aa ((4:Nat):Int) (b:Nat) ((7:Nat):Int))) Fv En b hb
 | 5,_=>exact pick (g:=λb=>isT (aa ((5:Nat):Int) (b:Nat) ((7:Nat):Int))) FF Gm b hb
 | 6,_=>exact pick (g:=λb=>isT (aa ((6:Nat):Int) (b:Nat) ((7:Nat):Int))) Ep EY b hb
 | 7,_=>exact pick (g:=λb=>isT (aa ((7:Nat):Int) (b:Nat) ((7:Nat):Int))) Gr FT b hb
 | n+8,h=>omega
theorem al(u a b:Nat)(hu:u<8)(ha:a<8)(hb:b<8):isT (aa (a:Nat) (b:Nat) (u:Nat))=true:=by
 match u,hu with
 | 0,_=>exact al0 a b ha hb
 | 1,_=>exact al1 a b ha hb
 | 2,_=>exact al2 a b ha hb
 | 3,_=>exact al3 a b ha hb
 | 4,_=>exact al4 a b ha hb
 | 5,_=>exact al5 a b ha hb
 | 6,_=>exact al6 a b ha hb
 | 7,_=>exact al7 a b ha hb
 | n+8,h=>omega
theorem zG{x:Int}{n:Nat}(h0:0≤x)(h1:x<(n:Int)):∃k:Nat,x=(k:Int)∧k<n:=⟨x.toNat,(Int.toNat_of_nonneg h0).symm,by omega⟩
theorem xR(a:Int)(b:Int)(units:Int)(w0:WfT fam (.int .i64) a)(w1:WfT fam (.int .i64) b)(w2:WfT fam (.int .i64) units):aP a b units=some true:=by
 have e:aP a b units=aP (a % 8) (b % 8) (units % 8):=by
  unfold aP
  rw[qL (a:=a) (n:=8) (by omega) (by omega),qL (a:=b) (n:=8) (by omega) (by omega),qL (a:=units) (n:=8) (by omega) (by omega)]
 rw[e]
 obtain⟨A,hA,hA2⟩:=zG (x:=a % 8) (n:=8) (by omega) (by omega)
 obtain⟨B,hB,hB2⟩:=zG (x:=b % 8) (n:=8) (by omega) (by omega)
 obtain⟨K,hK,hK2⟩:=zG (x:=units % 8) (n:=8) (by omega) (by omega)
 rw[hA,hB,hK];exact(oz _ _ _).ok true (Hb (al K A B hK2 hA2 hB2))
end Go.Fx.D
