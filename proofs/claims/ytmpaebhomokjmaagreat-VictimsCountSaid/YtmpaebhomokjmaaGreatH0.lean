/-
  The law over plain data: true at all inputs. Conditions: none.
-/
import Derived.Test.YtmpaebhomokjmaaGreatV
import Derived.Lib.Mul64
import Derived.Test.YtmpaebhomokjmaaGreatFxC
namespace Go.Fx.D
open Go Go.Fx
set_option linter.unusedVariables false
set_option linter.unusedSimpArgs false
set_option maxRecDepth 1000000
theorem dZ {x : Int} (h1 : -9223372036854775808 ≤ x) (h2 : x < 9223372036854775808) : w64 x = x:=by
 simp only [w64,IntKind.wrap,IntKind.bits,IntKind.signed]
 simp
 omega
def VB (n : Int) (v : Vec) : Prop:=(0 ≤ v.Mem ∧ v.Mem ≤ n) ∧ 0 ≤ v.Cores ∧ v.Cores ≤ n
instance (n : Int) (v : Vec) : Decidable (VB n v):=by unfold VB; infer_instance
def n8 (a : Vec) (bp : Int) : Vec:=⟨a.Mem * bp / 10000,a.Cores * bp / 10000⟩
theorem VB.mono {n m : Int} {v : Vec} (h : VB n v) (hm : n ≤ m) : VB m v:=by unfold VB at *; omega
theorem uJ {n bp N B : Int} (h0 : 0 ≤ n) (h1 : n ≤ N) (b0 : 0 ≤ bp) (b1 : bp ≤ B) : 0 ≤ n * bp ∧ n * bp ≤ N * B :=
 ⟨Int.mul_nonneg h0 b0,Int.le_trans (Int.mul_le_mul_of_nonneg_right h1 b0) (Int.mul_le_mul_of_nonneg_left b1 (by omega))⟩
theorem xb (a : Vec) : cZ a = some (decide (VB 1125899906842624 a)):=by
 unfold cZ
 have e : decide (VB 1125899906842624 a) = ((decide (a.Mem ≥ 0) && decide (a.Mem ≤ 1125899906842624)) && (decide (a.Cores ≥ 0) && decide (a.Cores ≤ 1125899906842624))):=by
  rw [Bool.eq_iff_iff,decide_eq_true_iff]
  simp only [Bool.and_eq_true,decide_eq_true_eq,VB,ge_iff_le]
 rw [e]
 cases decide (a.Mem ≥ 0) <;> cases decide (a.Mem ≤ 1125899906842624) <;> cases decide (a.Cores ≥ 0) <;> cases decide (a.Cores ≤ 1125899906842624) <;> rfl
theorem AP {a : Vec} (h : VB 1125899906842624 a) : jg a = some (a,0):=by
 unfold jg
 rw [xb,decide_eq_true h]
 rfl
theorem u64w (x : Int) : IntKind.u64.wrap x = x % 18446744073709551616:=by rw [IntKind.wrap_u64]
theorem u64id {x : Int} (h : 0 ≤ x) (h2 : x < 18446744073709551616) : IntKind.u64.wrap x = x:=by rw [u64w]; omega
theorem andN (a b : Nat) (ha : a < 18446744073709551616) (hb : b < 18446744073709551616) : andK .u64 (a : Int) (b : Int) = ((a &&& b : Nat) : Int):=by
 show IntKind.u64.wrap ((BitVec.ofInt 64 (a : Int) &&& BitVec.ofInt 64 (b : Int)).toNat) = _
 have e : ((BitVec.ofInt 64 (a : Int) &&& BitVec.ofInt 64 (b : Int)).toNat) = a &&& b:=by
  rw [BitVec.toNat_and,BitVec.toNat_ofInt,BitVec.toNat_ofInt]
  congr 1 <;> omega
 rw [e]
 have : a &&& b ≤ a:=Nat.and_le_left
 exact u64id (by omega) (by omega)
theorem and32 (a : Nat) (ha : a < 18446744073709551616) : andK .u64 (a : Int) 4294967295 = ((a % 4294967296 : Nat) : Int):=by
 have:=andN a 4294967295 ha (by omega)
 rw [show ((4294967295 : Nat) : Int) = 4294967295 from rfl] at this
 rw [this,show (4294967295 : Nat) = 2 ^ 32 - 1 from rfl,Nat.and_two_pow_sub_one_eq_mod]
theorem shr32 (x : Int) : shrK .u64 x 32 = x / 4294967296:=by
 show x.fdiv (2 ^ min (32 : Int).toNat IntKind.u64.bits) = _
 rw [show (2 ^ min (32 : Int).toNat IntKind.u64.bits : Int) = 4294967296 from by decide,Int.fdiv_eq_ediv_of_nonneg _ (by decide)]
theorem Az (x y : Nat) (hx : x < 18446744073709551616) (hy : y < 18446744073709551616) :
  jw (x : Int) (y : Int) = some (((x * y / 18446744073709551616 : Nat) : Int),((x * y % 18446744073709551616 : Nat) : Int)):=by
 obtain ⟨h1,h2,h3,h4⟩:=Lib.mul64_hi x y hx hy
 have a1:=Lib.half_mul_le (a:=x / 4294967296) (b:=y / 4294967296) (by omega) (by omega)
 have a2:=Lib.half_mul_le (a:=x / 4294967296) (b:=y % 4294967296) (by omega) (by omega)
 have a3:=Lib.half_mul_le (a:=x % 4294967296) (b:=y / 4294967296) (by omega) (by omega)
 have a4:=Lib.half_mul_le (a:=x % 4294967296) (b:=y % 4294967296) (by omega) (by omega)
 have w : ∀ a : Nat,a < 18446744073709551616 → IntKind.u64.wrap (a : Int) = (a : Int):=fun a ha => u64id (by omega) (by omega)
 have d : ∀ a : Nat,(a : Int) / 4294967296 = ((a / 4294967296 : Nat) : Int):=fun a => by omega
 have m : ∀ a b : Nat,(a : Int) * (b : Int) = ((a * b : Nat) : Int):=fun a b => (Int.natCast_mul a b).symm
 have p : ∀ a b : Nat,(a : Int) + (b : Int) = ((a + b : Nat) : Int):=fun a b => (Int.natCast_add a b).symm
 unfold jw
 simp only [shr32,d]
 rw [and32 y hy,and32 x hx]
 simp only [m,p]
 rw [w _ (Nat.lt_of_le_of_lt a1 (by omega)),w _ (Nat.lt_of_le_of_lt a2 (by omega)),w _ (Nat.lt_of_le_of_lt a3 (by omega)),w _ (Nat.lt_of_le_of_lt a4 (by omega))]
 simp only [d,p]
 rw [w _ h2]
 simp only [d,p]
 rw [and32 _ h2]
 simp only [p]
 rw [w _ h3]
 simp only [d]
 have hq : x * y / 18446744073709551616 < 18446744073709551616:=by
  have : x * y < 18446744073709551616 * 18446744073709551616:=Nat.mul_lt_mul_of_lt_of_lt hx hy
  omega
 have hs : x / 4294967296 * (y / 4294967296) + (x / 4294967296 * (y % 4294967296) + x % 4294967296 * (y % 4294967296) / 4294967296) / 4294967296 < 18446744073709551616:=by omega
 rw [w _ hs]
 simp only [p]
 rw [h4,w _ hq,u64w]
 simp
theorem x_ {n bp : Int} (h0 : 0 ≤ n) (h1 : n ≤ 1099511627776) (b0 : 0 ≤ bp) (b1 : bp ≤ 1000000) : jf n bp = some (n * bp / 10000) ∧ 0 ≤ n * bp / 10000 ∧ n * bp / 10000 ≤ 109951162777600:=by
 obtain ⟨a,rfl⟩:=Int.eq_ofNat_of_zero_le h0
 obtain ⟨b,rfl⟩:=Int.eq_ofNat_of_zero_le b0
 have m3:=uJ h0 h1 b0 b1
 have hm : (a : Int) * (b : Int) = ((a * b : Nat) : Int):=(Int.natCast_mul a b).symm
 rw [hm] at m3 ⊢
 refine ⟨?_,by omega,by omega⟩
 unfold jf
 rw [u64id (by omega) (by omega),u64id (by omega) (by omega),Az _ _ (by omega) (by omega)]
 generalize a * b = c at m3 ⊢
 have e1 : c / 18446744073709551616 = 0:=by omega
 have e2 : c % 18446744073709551616 = c:=by omega
 rw [e1,e2]
 simp only [Dm]
 unfold kO
 have n0 : nz 10000 = some ():=rfl
 have c1 : ((10000 : Int) == 0) = false:=rfl
 have c2 : decide ((10000 : Int) ≤ ((0 : Nat) : Int)) = false:=rfl
 have c3 : (((0 : Nat) : Int) == 0) = true:=rfl
 simp only [c1,c2,c3,n0,cond_true,cond_false,Dm]
 rw [Int.tdiv_eq_ediv_of_nonneg (by omega),u64id (by omega) (by omega),dZ (by omega) (by omega)]
theorem zB {a : Vec} {bp : Int} (ha : VB 1099511627776 a) (b0 : 0 ≤ bp) (b1 : bp ≤ 1000000) : dN a bp = some (n8 a bp,0):=by
 have ha':=ha
 unfold VB at ha'
 obtain ⟨e1,p1,p2⟩:=x_ ha'.1.1 ha'.1.2 b0 b1
 obtain ⟨e2,p3,p4⟩:=x_ ha'.2.1 ha'.2.2 b0 b1
 have hv : VB 109951162777600 (n8 a bp):=⟨⟨p1,p2⟩,p3,p4⟩
 unfold dN
 rw [xb,decide_eq_true (ha.mono (by omega))]
 simp only [Dm,Bool.not_true,cond_false]
 rw [decide_eq_false (by omega),decide_eq_false (by omega)]
 simp only [Dm,cond_false]
 rw [e1,e2]
 simp only [Dm]
 have : (⟨a.Mem * bp / 10000,a.Cores * bp / 10000⟩ : Vec) = n8 a bp:=rfl
 rw [this,AP (hv.mono (by omega))]
 rfl
abbrev Str:=List UInt8
def rt : Str:=[114,111,111,116]
def qA : Str:=[114,111,111,116,46,97]
def qB : Str:=[114,111,111,116,46,98]
def stT (u : Int) (asks : List Ask) (la lb : Int) (cs : List Cont) : State :=
 ⟨⟨[[]],[⟨rt,[⟨10000,10000⟩],10000⟩,⟨qA,[⟨la,10000⟩],1000000⟩,⟨qB,[⟨lb,10000⟩],1000000⟩]⟩,[⟨1,0,0,⟨u,u⟩,10,0,true⟩],
  [⟨1,2,qA,0,0,⟨1,1⟩,[],10,0,[],[],[],[]⟩,⟨2,2,qB,0,0,⟨1,1⟩,asks,10,0,[],[],[],[]⟩],cs,[],[],10,0,u⟩
def askW (w : Int) : List Ask:=[⟨1,0,⟨1,1⟩,w,-1,-1,0⟩]
def csT (u : Nat) : List Cont:=((List.range (u - 1)).map fun k => (⟨((k + 1 : Nat) : Int),1,1,⟨1,1⟩,0,0,k == 0,0⟩ : Cont)) ++ [⟨(u : Int),2,1,⟨1,1⟩,0,0,true,0⟩]
def lmT (u : Nat) : List Ent2_IntListUInt8:=((List.range (u - 1)).map fun k => (⟨((k + 1 : Nat) : Int),qA⟩ : Ent2_IntListUInt8)) ++ [⟨(u : Int),qB⟩]
def kT (s : State) (x y : Int) (lm : List Ent2_IntListUInt8) : Looker:=⟨s,0,[⟨qA,x⟩,⟨qB,y⟩],lm,[],0⟩
def lst (u j : Nat) : List Int:=(List.range j).map fun i => ((u - 1 - i : Nat) : Int)
def zH : Option (Bool ⊕ Unit) → Bool
 | some (.inr _) => true
 | _ => false
theorem zI {o : Option (Bool ⊕ Unit)} (h : zH o = true) : o = some (.inr ()):=by
 match o,h with
 | some (.inr ()),_ => rfl
section
variable (u : Int) (asks : List Ask) (la lb : Int) (cs : List Cont)
theorem kidsR : eU (stT u asks la lb cs).Conf rt = some [qA,qB]:=(kL _ _).ok _ (by kernel_rfl)
theorem kidsA : eU (stT u asks la lb cs).Conf qA = some []:=(kL _ _).ok _ (by kernel_rfl)
theorem kidsB : eU (stT u asks la lb cs).Conf qB = some []:=(kL _ _).ok _ (by kernel_rfl)
theorem findA : fS (stT u asks la lb cs).Conf qA = some (⟨qA,[⟨la,10000⟩],1000000⟩,true):=(kJ _ _).ok _ (by kernel_rfl)
theorem findB : fS (stT u asks la lb cs).Conf qB = some (⟨qB,[⟨lb,10000⟩],1000000⟩,true):=(kJ _ _).ok _ (by kernel_rfl)
theorem upA : lV qA = some [qA,rt]:=(qN _).ok _ (by kernel_rfl)
theorem upB : lV qB = some [qB,rt]:=(qN _).ok _ (by kernel_rfl)
theorem pendA : aw (stT u asks la lb cs) qA 0 = some ⟨0,0⟩:=(ax _ _ _).ok _ (by kernel_rfl)
theorem C7 : aw (stT u [] la lb cs) qB 0 = some ⟨0,0⟩:=(ax _ _ _).ok _ (by kernel_rfl)
theorem CW : aw (stT u (askW 1) la lb cs) qB 0 = some ⟨1,1⟩:=(ax _ _ _).ok _ (by kernel_rfl)
theorem CZ : aw (stT u (askW 2) la lb cs) qB 0 = some ⟨2,2⟩:=(ax _ _ _).ok _ (by kernel_rfl)
theorem C0 : aw (stT u (askW 3) la lb cs) qB 0 = some ⟨3,3⟩:=(ax _ _ _).ok _ (by kernel_rfl)
theorem Dh : aw (stT u (askW 4) la lb cs) qB 0 = some ⟨4,4⟩:=(ax _ _ _).ok _ (by kernel_rfl)
theorem C8 : aw (stT u (askW 5) la lb cs) qB 0 = some ⟨5,5⟩:=(ax _ _ _).ok _ (by kernel_rfl)
theorem Dd : aw (stT u (askW 6) la lb cs) qB 0 = some ⟨6,6⟩:=(ax _ _ _).ok _ (by kernel_rfl)
theorem Db : aw (stT u (askW 7) la lb cs) qB 0 = some ⟨7,7⟩:=(ax _ _ _).ok _ (by kernel_rfl)
theorem C5 : aw (stT u (askW 8) la lb cs) qB 0 = some ⟨8,8⟩:=(ax _ _ _).ok _ (by kernel_rfl)
theorem CU : aw (stT u (askW 9) la lb cs) qB 0 = some ⟨9,9⟩:=(ax _ _ _).ok _ (by kernel_rfl)
theorem BM : aw (stT u (askW 10) la lb cs) qB 0 = some ⟨10,10⟩:=(ax _ _ _).ok _ (by kernel_rfl)
theorem CJ : aw (stT u (askW 11) la lb cs) qB 0 = some ⟨11,11⟩:=(ax _ _ _).ok _ (by kernel_rfl)
theorem Ca : aw (stT u (askW 12) la lb cs) qB 0 = some ⟨12,12⟩:=(ax _ _ _).ok _ (by kernel_rfl)
theorem Ce : aw (stT u (askW 13) la lb cs) qB 0 = some ⟨13,13⟩:=(ax _ _ _).ok _ (by kernel_rfl)
theorem Ci : aw (stT u (askW 14) la lb cs) qB 0 = some ⟨14,14⟩:=(ax _ _ _).ok _ (by kernel_rfl)
theorem Cv : aw (stT u (askW 15) la lb cs) qB 0 = some ⟨15,15⟩:=(ax _ _ _).ok _ (by kernel_rfl)
theorem B9 : aw (stT u (askW 16) la lb cs) qB 0 = some ⟨16,16⟩:=(ax _ _ _).ok _ (by kernel_rfl)
theorem Cr : aw (stT u (askW 17) la lb cs) qB 0 = some ⟨17,17⟩:=(ax _ _ _).ok _ (by kernel_rfl)
theorem B8 : aw (stT u (askW 18) la lb cs) qB 0 = some ⟨18,18⟩:=(ax _ _ _).ok _ (by kernel_rfl)
theorem B7 : aw (stT u (askW 19) la lb cs) qB 0 = some ⟨19,19⟩:=(ax _ _ _).ok _ (by kernel_rfl)
theorem Cu : aw (stT u (askW 20) la lb cs) qB 0 = some ⟨20,20⟩:=(ax _ _ _).ok _ (by kernel_rfl)
theorem BL : aw (stT u (askW 21) la lb cs) qB 0 = some ⟨21,21⟩:=(ax _ _ _).ok _ (by kernel_rfl)
theorem B5 : aw (stT u (askW 22) la lb cs) qB 0 = some ⟨22,22⟩:=(ax _ _ _).ok _ (by kernel_rfl)
theorem B4 : aw (stT u (askW 23) la lb cs) qB 0 = some ⟨23,23⟩:=(ax _ _ _).ok _ (by kernel_rfl)
theorem Cj : aw (stT u (askW 24) la lb cs) qB 0 = some ⟨24,24⟩:=(ax _ _ _).ok _ (by kernel_rfl)
theorem pendB (w : Nat) (h1 : 1 ≤ w) (h2 : w ≤ 24) : aw (stT u (askW w) la lb cs) qB 0 = some ⟨w,w⟩:=by
 match w,h1,h2 with
 | 1,_,_ => exact CW u la lb cs
 | 2,_,_ => exact CZ u la lb cs
 | 3,_,_ => exact C0 u la lb cs
 | 4,_,_ => exact Dh u la lb cs
 | 5,_,_ => exact C8 u la lb cs
 | 6,_,_ => exact Dd u la lb cs
 | 7,_,_ => exact Db u la lb cs
 | 8,_,_ => exact C5 u la lb cs
 | 9,_,_ => exact CU u la lb cs
 | 10,_,_ => exact BM u la lb cs
 | 11,_,_ => exact CJ u la lb cs
 | 12,_,_ => exact Ca u la lb cs
 | 13,_,_ => exact Ce u la lb cs
 | 14,_,_ => exact Ci u la lb cs
 | 15,_,_ => exact Cv u la lb cs
 | 16,_,_ => exact B9 u la lb cs
 | 17,_,_ => exact Cr u la lb cs
 | 18,_,_ => exact B8 u la lb cs
 | 19,_,_ => exact B7 u la lb cs
 | 20,_,_ => exact Cu u la lb cs
 | 21,_,_ => exact BL u la lb cs
 | 22,_,_ => exact B5 u la lb cs
 | 23,_,_ => exact B4 u la lb cs
 | 24,_,_ => exact Cj u la lb cs
 | n + 25,_,h => omega
theorem wU (x y gA : Int) (lm : List Ent2_IntListUInt8) : loop (aC (kT (stT u asks la lb cs) x y lm) qA ⟨u - 1,u - 1⟩ ⟨gA,gA⟩) 0 = some (.inr ()) :=
 (aa (n:=8) (fun t => eF (kT (stT u asks la lb cs) x y lm) qA ⟨u - 1,u - 1⟩ ⟨gA,gA⟩ t) 0).ok _ (by kernel_rfl)
theorem BQ (x y gB : Int) (lm : List Ent2_IntListUInt8) : loop (aC (kT (stT u [] la lb cs) x y lm) qB ⟨1,1⟩ ⟨gB,gB⟩) 0 = some (.inr ()) :=
 (aa (n:=8) (fun t => eF (kT (stT u [] la lb cs) x y lm) qB ⟨1,1⟩ ⟨gB,gB⟩ t) 0).ok _ (by kernel_rfl)
end
end Go.Fx.D
