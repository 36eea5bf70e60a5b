/-
  The reference manager: what holds of its state after every script. Conditions: none.
-/
import Derived.Test.YtdickabkndfjhaaGreatSDD
namespace Go.Fx.D
open Go Go.Fx
set_option linter.unusedVariables false
set_option linter.unusedSimpArgs false
abbrev Str:=List UInt8
theorem am{x:Int}(h1:-9223372036854775808≤x)(h2:x<9223372036854775808):Lx x=x:=KL h1 h2
theorem dI{k:Nat}(h:k<1000000000):Lx ((k:Int)+1)=((k+1:Nat):Int):=by rw[am (by omega) (by omega)];omega
abbrev root:Str:=[114,111,111,116]
def aF(p:Str):Str:=((p.reverse.dropWhile (· != 46)).tail).reverse
theorem IZ(f:UInt8→Bool)(p:Str):(p.reverse.dropWhile f).reverse=p.take (p.reverse.dropWhile f).length:=by have h:=Qf_ f (l:=p.reverse);have h2:=List.reverse_prefix.2 h;rw[List.reverse_reverse]at h2;have:=List.prefix_iff_eq_take.1 h2;rw[Z8]at this;exact this
theorem m8(p:Str):aF p=p.take ((p.reverse.dropWhile (· != 46)).length - 1):=by
 unfold aF;have h:=IZ (· != 46) p
 cases hd:p.reverse.dropWhile (· != 46)with
 | nil=>simp
 | cons x d=>
  rw[hd]at h;simp only[List.tail_cons,PN,Nat.add_sub_cancel]
  have h2:((x::d).reverse).take d.length=(p.take (d.length+1)).take d.length:=by rw[h];rfl
  rw[List.take_take,QfR (by omega),List.reverse_cons,QfV (by simp),Wv (by simp)]at h2
  exact h2
theorem cN{p:Str}(h:p≠[]):(aF p).length<p.length:=by rw[m8,Oy];have:=(Qf_ (· != 46) (l:=p.reverse)).length_le;rw[Z8]at this;have:0<p.length:=QgM.2 h;omega
theorem Dc(p:Str)(hp:p.length<1000000000):∀m,m≤p.length→loop (la p) ((m:Int) - 1)=some ((((p.take m).reverse.dropWhile (· != 46)).length:Int) - 1):=by
 intro m
 induction m with
 | zero=>intro _;rw[aX];rfl
 | succ m ih=>
  intro hm;rw[aX]
  have e0:((m+1:Nat):Int) - 1=(m:Int):=by omega
  rw[e0];unfold la
  rw[decide_eq_true (by omega),ai (show m<p.length by omega)]
  have hb:((p[m].toNat:Int) != 46)=(p[m] != 46):=by
   rw[YA,bne_iff_ne,bne_iff_ne,ne_eq,ne_eq]
   refine not_congr ⟨λh=>?_,λh=>by rw[h];rfl⟩
   exact UInt8.toNat_inj.1 (by have:(46:UInt8).toNat=46:=rfl;omega)
  have ht:(p.take (m+1)).reverse=p[m]::(p.take m).reverse:=by rw[R3 (by omega),QeQ];rfl
  rw[ht,List.dropWhile_cons];simp only[cond_true,K8,hb]
  cases h:(p[m] != 46)with
  | true=>
   simp only[cond_true]
   rw[am (by omega) (by omega)]
   exact ih (by omega)
  | false=>
   simp only[cond_false,RZ,if_false,PN,Z8,Oy]
   congr 1
   omega
theorem rQ{p:Str}(hp:p.length<1000000000):dH p=some (aF p):=by
 unfold dH;dsimp only
 rw[am (by omega) (by omega),Dc p hp p.length (MN _),Sq,m8]
 simp only[K8];have hle:=(Qf_ (· != 46) (l:=p.reverse)).length_le;rw[Z8]at hle;generalize(p.reverse.dropWhile (· != 46)).length=n at hle ⊢;by_cases h:n=0
 ·subst h;rfl
 ·rw[decide_eq_false (by omega)]
  unfold slc;simp only[cond_false]
  rw[if_pos ⟨by omega,by omega,by omega⟩]
  simp only[K8,QgA,Z5]
  congr 2
  omega
def X5:Nat→Str→List Str
 | 0,_=>[]
 | n+1,p=>if p = []then[]else p::X5 n (aF p)
def Ob(p:Str):List Str:=X5 p.length p
theorem Ct:∀(n m:Nat)(p:Str),p.length≤n→p.length≤m→X5 n p=X5 m p
 | 0,m,p,h1,h2=>by
  have:p = []:=QdL.1 (by omega)
  subst this
  cases m<;>rfl
 | n+1,0,p,h1,h2=>by
  have:p = []:=QdL.1 (by omega)
  subst this;rfl
 | n+1,m+1,p,h1,h2=>by
  unfold X5;by_cases h:p = []
  ·rw[if_pos h,if_pos h]
  ·have:=cN h
   rw[if_neg h,if_neg h,Ct n m (aF p) (by omega) (by omega)]
theorem gH:Ob [] = []:=rfl
theorem dm{p:Str}(h:p≠[]):Ob p=p::Ob (aF p):=by
 have h1:=cN h;unfold Ob
 obtain⟨n,hn⟩:∃n,p.length=n+1:=⟨p.length - 1,by omega⟩
 rw[Ct (aF p).length n (aF p) (MN _) (by omega),hn]
 conv=>lhs;unfold X5
 rw[if_neg h]
theorem uh(p:Str):(Ob p).length≤p.length:=by
 generalize hn:p.length=n
 induction n using Nat.strongRecOn generalizing p with
 | _ n ih=>
  by_cases h:p = []
  ·subst h;simp[gH]
  ·have h1:=cN h;rw[dm h,PN]
   have:=ih _ (by omega) (aF p) rfl
   omega
theorem Cc:∀(n:Nat)(p:Str)(l:List Str),p.length≤n→p.length+l.length≤1000000→loop fO (p,l)=some (l++Ob p)
 | n,p,l,h1,h2=>by
  by_cases h:p = []
  ·subst h;rw[aX];simp[fO,gH]
  ·have hl:=cN h
   have hb:(p == [])=false:=by simp[h]
   have hs:fO (p,l)=some (.inl (aF p,l++[p])):=by
    unfold fO;simp only[hb,Vn,cond_true]
    rw[aj (by simp;omega) (by omega),rQ (by omega)]
    rfl
   rw[aX,hs];dsimp only
   match n with
   | 0=>omega
   | n+1=>
    rw[Cc n (aF p) (l++[p]) (by omega) (by simp;omega),dm h]
    simp
theorem Dx{p:Str}(h:p.length≤1000000):gJ p=some (Ob p):=by
 unfold gJ
 rw[Cc p.length p [] (MN _) (by simpa using h)]
 rfl
structure O9(c:Lf):Prop where
 q:c.Lg.length≤100000
 l:c.Lp.length≤1000
 p:∀x∈c.Lg,x.LC.length≤1000000
 c:∀x∈c.Lg,x.MR.length≤1000
def LP(c:Lf)(p:Str):List Str:=if p = []then[]else(c.Lg.filter λq=>aF q.LC == p).map (·.LC)
def Nb(c:Lf)(p:Str):Option Lm:=c.Lg.find? λq=>q.LC == p
def Nq(c:Lf)(p:Str):Bool:=(Nb c p).isSome&&(LP c p).isEmpty
theorem mI{c:Lf}(h:O9 c)(p:Str):cb c p=some (LP c p):=by
 unfold cb;have hq:=h.q
 have e:=bU (λ(s:List Str) i=>(s,i)) c.Lg (λq=>!(p == [])&&aF q.LC == p) (·.LC) (step:=iF c p) (by omega) ?_ ?_
 ·rw[e];simp only[K8];unfold LP;by_cases hp:p = []
  ·subst hp;simp
  ·rw[if_neg hp,show(p == [])=false by simp[hp]];simp
 ·intro k hk s hs;unfold iF;rw[ah hk,ai hk];simp only[cond_true,K8]
  rw[rQ (by have:=h.p _ (NQ hk);omega)]
  cases hp:(p == [])<;>simp only[Vn,PZ,cond_true,cond_false,K8,QhB,Bool.false_and]
  ·cases hq:(aF c.Lg[k].LC == p)<;>simp only[cond_true,cond_false,K8]
   ·rfl
   ·rw[aj (by simp;omega) (by omega)];rfl
  ·rfl
 ·intro s;unfold iF;rw[ar];rfl
def noQ:Lm:=⟨[],[],0⟩
theorem oN{c:Lf}(h:O9 c)(p:Str):bP c p=some ((Nb c p).elim (noQ,false) λq=>(q,true)):=by
 unfold bP;have hq:=h.q
 have e:=eJ (λi=>(noQ,i)) c.Lg (λq=>q.LC == p) (λq=>.inl (q,true)) (.inr noQ) (step:=dV c p) (by omega) ?_ ?_ ?_
 ·unfold noQ at e;rw[e];unfold Nb noQ
  cases c.Lg.find? λq=>q.LC == p<;>rfl
 ·intro k hk hp;unfold dV;rw[ah hk,ai hk];simp only[cond_true,K8,hp,cond_false]
 ·intro k hk hp;unfold dV;rw[ah hk,ai hk];simp only[cond_true,K8,hp]
  rw[aj (by have:=h.c _ (NQ hk);simp;omega) (by omega)]
  rfl
 ·unfold dV;rw[ar];rfl
theorem wR{c:Lf}(h:O9 c)(p:Str):eH c p=some (Nq c p):=by
 unfold eH Nq;rw[oN h,mI h]
 cases Nb c p with
 | none=>rfl
 | some q=>
  simp only[Option.elim_some,K8,cond_true,Option.isSome_some,QhB]
  cases LP c p with
  | nil=>rfl
  | cons x l=>simp;omega
end Go.Fx.D
