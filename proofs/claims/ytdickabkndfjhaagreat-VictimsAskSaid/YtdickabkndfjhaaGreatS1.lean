/-
  The reference manager: what holds of its state after every script. Conditions: none.
-/
import Derived.Test.YtdickabkndfjhaaGreatSDD
namespace Go.Fx.D
open Go Go.Fx
set_option linter.unusedVariables false
set_option linter.unusedSimpArgs false
abbrev Str:=List UInt8
theorem aj{x:Int}(h1:-9223372036854775808≤x)(h2:x<9223372036854775808):LC x=x:=KY h1 h2
theorem du{k:Nat}(h:k<1000000000):LC ((k:Int)+1)=((k+1:Nat):Int):=by rw[aj (by omega) (by omega)];omega
abbrev root:Str:=[114,111,111,116]
def aL(p:Str):Str:=((p.reverse.dropWhile (· != 46)).tail).reverse
theorem JA(f:UInt8→Bool)(p:Str):(p.reverse.dropWhile f).reverse=p.take (p.reverse.dropWhile f).length:=by have h:=QeV f (l:=p.reverse);have h2:=List.reverse_prefix.2 h;rw[List.reverse_reverse]at h2;have:=List.prefix_iff_eq_take.1 h2;rw[QdH]at this;exact this
theorem nL(p:Str):aL p=p.take ((p.reverse.dropWhile (· != 46)).length - 1):=by
 unfold aL;have h:=JA (· != 46) p
 cases hd:p.reverse.dropWhile (· != 46)with
 | nil=>simp
 | cons x d=>
  rw[hd]at h;simp only[List.tail_cons,P5,Nat.add_sub_cancel]
  have h2:((x::d).reverse).take d.length=(p.take (d.length+1)).take d.length:=by rw[h];rfl
  rw[List.take_take,QfO (by omega),List.reverse_cons,QfS (by simp),WC (by simp)]at h2
  exact h2
theorem fY{p:Str}(h:p≠[]):(aL p).length<p.length:=by rw[nL,Ox];have:=(QeV (· != 46) (l:=p.reverse)).length_le;rw[QdH]at this;have:0<p.length:=QgK.2 h;omega
theorem Dk(p:Str)(hp:p.length<1000000000):∀m,m≤p.length→loop (lI p) ((m:Int) - 1)=some ((((p.take m).reverse.dropWhile (· != 46)).length:Int) - 1):=by
 intro m
 induction m with
 | zero=>intro _;rw[aP];rfl
 | succ m ih=>
  intro hm;rw[aP]
  have e0:((m+1:Nat):Int) - 1=(m:Int):=by omega
  rw[e0];unfold lI
  rw[decide_eq_true (by omega),ai (show m<p.length by omega)]
  have hb:((p[m].toNat:Int) != 46)=(p[m] != 46):=by
   rw[Yb,bne_iff_ne,bne_iff_ne,ne_eq,ne_eq]
   refine not_congr ⟨λh=>?_,λh=>by rw[h];rfl⟩
   exact UInt8.toNat_inj.1 (by have:(46:UInt8).toNat=46:=rfl;omega)
  have ht:(p.take (m+1)).reverse=p[m]::(p.take m).reverse:=by rw[Ra (by omega),QeM];rfl
  rw[ht,List.dropWhile_cons];simp only[cond_true,K_,hb]
  cases h:(p[m] != 46)with
  | true=>
   simp only[cond_true]
   rw[aj (by omega) (by omega)]
   exact ih (by omega)
  | false=>
   simp only[cond_false,R3,if_false,P5,QdH,Ox]
   congr 1
   omega
theorem sF{p:Str}(hp:p.length<1000000000):dU p=some (aL p):=by
 unfold dU;dsimp only
 rw[aj (by omega) (by omega),Dk p hp p.length (MO _),RB,nL]
 simp only[K_];have hle:=(QeV (· != 46) (l:=p.reverse)).length_le;rw[QdH]at hle;generalize(p.reverse.dropWhile (· != 46)).length=n at hle ⊢;by_cases h:n=0
 ·subst h;rfl
 ·rw[decide_eq_false (by omega)]
  unfold slc;simp only[cond_false]
  rw[if_pos ⟨by omega,by omega,by omega⟩]
  simp only[K_,Qg_,QeC]
  congr 2
  omega
def Yh:Nat→Str→List Str
 | 0,_=>[]
 | n+1,p=>if p = []then[]else p::Yh n (aL p)
def Ov(p:Str):List Str:=Yh p.length p
theorem Ct:∀(n m:Nat)(p:Str),p.length≤n→p.length≤m→Yh n p=Yh m p
 | 0,m,p,h1,h2=>by
  have:p = []:=QfL.1 (by omega)
  subst this
  cases m<;>rfl
 | n+1,0,p,h1,h2=>by
  have:p = []:=QfL.1 (by omega)
  subst this;rfl
 | n+1,m+1,p,h1,h2=>by
  unfold Yh;by_cases h:p = []
  ·rw[if_pos h,if_pos h]
  ·have:=fY h
   rw[if_neg h,if_neg h,Ct n m (aL p) (by omega) (by omega)]
theorem m9:Ov [] = []:=rfl
theorem lX{p:Str}(h:p≠[]):Ov p=p::Ov (aL p):=by
 have h1:=fY h;unfold Ov
 obtain⟨n,hn⟩:∃n,p.length=n+1:=⟨p.length - 1,by omega⟩
 rw[Ct (aL p).length n (aL p) (MO _) (by omega),hn]
 conv=>lhs;unfold Yh
 rw[if_neg h]
theorem uT(p:Str):(Ov p).length≤p.length:=by
 generalize hn:p.length=n
 induction n using Nat.strongRecOn generalizing p with
 | _ n ih=>
  by_cases h:p = []
  ·subst h;simp[m9]
  ·have h1:=fY h;rw[lX h,P5]
   have:=ih _ (by omega) (aL p) rfl
   omega
theorem Cy:∀(n:Nat)(p:Str)(l:List Str),p.length≤n→p.length+l.length≤1000000→loop gm (p,l)=some (l++Ov p)
 | n,p,l,h1,h2=>by
  by_cases h:p = []
  ·subst h;rw[aP];simp[gm,m9]
  ·have hl:=fY h
   have hb:(p == [])=false:=by simp[h]
   have hs:gm (p,l)=some (.inl (aL p,l++[p])):=by
    unfold gm;simp only[hb,Wy,cond_true]
    rw[ao (by simp;omega) (by omega),sF (by omega)]
    rfl
   rw[aP,hs];dsimp only
   match n with
   | 0=>omega
   | n+1=>
    rw[Cy n (aL p) (l++[p]) (by omega) (by simp;omega),lX h]
    simp
theorem DD{p:Str}(h:p.length≤1000000):ig p=some (Ov p):=by
 unfold ig
 rw[Cy p.length p [] (MO _) (by simpa using h)]
 rfl
structure Pb(c:Lg):Prop where
 q:c.Lh.length≤100000
 l:c.Lm.length≤1000
 p:∀x∈c.Lh,x.LB.length≤1000000
 c:∀x∈c.Lh,x.MS.length≤1000
def Ma(c:Lg)(p:Str):List Str:=if p = []then[]else(c.Lh.filter λq=>aL q.LB == p).map (·.LB)
def Na(c:Lg)(p:Str):Option Ls:=c.Lh.find? λq=>q.LB == p
def Nu(c:Lg)(p:Str):Bool:=(Na c p).isSome&&(Ma c p).isEmpty
theorem nf{c:Lg}(h:Pb c)(p:Str):cz c p=some (Ma c p):=by
 unfold cz;have hq:=h.q
 have e:=bQ (λ(s:List Str) i=>(s,i)) c.Lh (λq=>!(p == [])&&aL q.LB == p) (·.LB) (step:=je c p) (by omega) ?_ ?_
 ·rw[e];simp only[K_];unfold Ma;by_cases hp:p = []
  ·subst hp;simp
  ·rw[if_neg hp,show(p == [])=false by simp[hp]];simp
 ·intro k hk s hs;unfold je;rw[ah hk,ai hk];simp only[cond_true,K_]
  rw[sF (by have:=h.p _ (Nq hk);omega)]
  cases hp:(p == [])<;>simp only[Wy,PG,cond_true,cond_false,K_,YH,Bool.false_and]
  ·cases hq:(aL c.Lh[k].LB == p)<;>simp only[cond_true,cond_false,K_]
   ·rfl
   ·rw[ao (by simp;omega) (by omega)];rfl
  ·rfl
 ·intro s;unfold je;rw[am];rfl
def noQ:Ls:=⟨[],[],0⟩
theorem pA{c:Lg}(h:Pb c)(p:Str):bZ c p=some ((Na c p).elim (noQ,false) λq=>(q,true)):=by
 unfold bZ;have hq:=h.q
 have e:=eT (λi=>(noQ,i)) c.Lh (λq=>q.LB == p) (λq=>.inl (q,true)) (.inr noQ) (step:=eN c p) (by omega) ?_ ?_ ?_
 ·unfold noQ at e;rw[e];unfold Na noQ
  cases c.Lh.find? λq=>q.LB == p<;>rfl
 ·intro k hk hp;unfold eN;rw[ah hk,ai hk];simp only[cond_true,K_,hp,cond_false]
 ·intro k hk hp;unfold eN;rw[ah hk,ai hk];simp only[cond_true,K_,hp]
  rw[ao (by have:=h.c _ (Nq hk);simp;omega) (by omega)]
  rfl
 ·unfold eN;rw[am];rfl
theorem uS{c:Lg}(h:Pb c)(p:Str):bn c p=some (Nu c p):=by
 unfold bn Nu;rw[pA h,nf h]
 cases Na c p with
 | none=>rfl
 | some q=>
  simp only[Option.elim_some,K_,cond_true,Option.isSome_some,YH]
  cases Ma c p with
  | nil=>rfl
  | cons x l=>simp;omega
end Go.Fx.D
