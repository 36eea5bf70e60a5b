/-
  The reference manager: what holds of its state after every script. Conditions: none.
-/
import Derived.Test.YtdickabkndfjhaaGreatS9
namespace Go.Fx.D
open Go Go.Fx
set_option linter.unusedVariables false
set_option linter.unusedSimpArgs false
theorem xC{α : Type}[Inhabited α]{m:Option α}(h:Gv m λ_=>True)(z:α):m=some (m.getD z):=by obtain⟨a,rfl,_⟩:=h;rfl
theorem yl(x y:T9):Gv (gy x y) λ_=>True:=by
 unfold gy
 repeat' (first | exact⟨_,rfl,trivial⟩ | refine ae (λ_=>?_) (λ_=>?_) | refine ad (P:=λ_=>True) ?_ (λ_ _=>?_))
theorem CU(a p:Vec):Gv (iu a p) λ_=>True:=by
 unfold iu;refine ad (yl _ _) λ_ _=>?_
 repeat' (first | exact⟨_,rfl,trivial⟩ | refine ae (λ_=>?_) (λ_=>?_))
theorem H1(a p b q:Vec):Gv (dN a p b q) λ_=>True:=by
 unfold dN;refine ad (P:=λ_=>True) ?_ λ_ _=>ae (λ_=>aa trivial) (λ_=>?_)
 ·rw[rY,rY,rY,rY]
  repeat' (first | exact⟨_,rfl,trivial⟩ | refine ae (λ_=>?_) (λ_=>?_) | refine ad (P:=λ_=>True) ?_ (λ_ _=>?_))
 ·exact ad (CU _ _) λ_ _=>ad (CU _ _) λ_ _=>ad (yl _ _) λ_ _=>aa trivial
def WS(a p b q:Vec):Int:=(dN a p b q).getD 0
theorem G9(a p b q:Vec):dN a p b q=some (WS a p b q):=xC (H1 a p b q) 0
def mh(s:JG)(a b:Str)(label:Int):Bool:=
 let o:=WS (MQ s a label true 0) (NA s a label true) (MQ s b label true 0) (NA s b label true)
 decide (o<0)||(o == 0&&Op.bytesLess a b)
theorem IA{s:JG}(h:SC s){a b:Str}(ha:a.length≤1000000)(hb:b.length≤1000000)(label:Int):j7 s a b label=some (mh s a b label):=by
 unfold j7 mh;rw[gL h.b,K_,mL h ha,K_,gL h.b,K_,mL h hb,K_,G9,K_];dsimp only;generalize WS _ _ _ _=o
 cases decide (o<0)<;>cases (o == 0)<;>rfl
def Uw{α : Type}(f:α→α→Bool)(out:List α)(x:α):List α:=(out.takeWhile λy=>!f x y)++x::out.dropWhile λy=>!f x y
theorem Bb{α : Type}(f:α→α→Bool)(out:List α)(x:α):(Uw f out x).length=out.length+1:=by unfold Uw;have:=congrArg List.length (QdR (p:=λy=>!f x y) (l:=out));rw[Lc]at this ⊢;rw[P5];omega
theorem yv{α : Type}(f:α→α→Bool)(out:List α)(x:α):(Uw f out x).Perm (x::out):=by unfold Uw;refine List.perm_middle.trans ?_;rw[QdR]
theorem GS{α : Type}{f:α→α→Bool}{out:List α}{x y:α}:y∈Uw f out x↔y=x∨y∈out:=by rw[(yv f out x).mem_iff,NH]
def O_(s:JG)(Lf:Str)(label:Int):List Str:=(Ma s.Lg Lf).foldl (Uw λa b=>mh s a b label) []
theorem sf{α : Type}(f:α→α→Bool):∀(l out:List α),(l.foldl (Uw f) out).Perm (l.reverse++out)
 | [],out=>.refl _
 | x::l,out=>by rw[TN,List.reverse_cons,PS];exact(sf f l _).trans (QeD _ (yv f out x))
theorem sa{α : Type}(f:α→α→Bool)(l:List α):(l.foldl (Uw f) []).Perm l:=by have:=sf f l [];rw[Wo]at this;exact this.trans l.reverse_perm
theorem rH(s:JG)(Lf:Str)(label:Int):(O_ s Lf label).Perm (Ma s.Lg Lf):=sa _ _
theorem jP{c:Lg}(h:Nj c){q:Ls}(hq:q∈c.Lh):OA q.LB:=by obtain⟨i,hi,rfl⟩:=UL hq;exact(h.q i hi).Lf
theorem KZ{c:Lg}(h:Nj c){p x:Str}(hx:x∈Ma c p):OA x:=by obtain⟨_,q,hq,rfl,_⟩:=eW hx;exact jP h hq
theorem Ae{s:JG}(h:SC s)(Lf:Str)(label:Int):kn s Lf label=some (O_ s Lf label):=by
 unfold kn;rw[nf h.b.cf,K_];have hkl:=oz s.Lg Lf;have hq:=h.c.qs;have e:=(bF (λ(out:List Str) i=>(out,i)) (Ma s.Lg Lf) (Uw λa b=>mh s a b label) (λk out=>out.length=k∧∀y∈out,y.length≤1000000) (λout=>out)
  (step:=ic s label (Ma s.Lg Lf)) (by omega) ?_ ?_ (s:=[]) ⟨rfl,by simp⟩).1
 ·rw[e,K_];rfl
 ·rintro k hk out ⟨hl,hm⟩
  have hx:((Ma s.Lg Lf)[k]).length≤1000000:=by have:=(KZ h.c (Nq hk)).len;omega
  refine⟨?_,by rw[Bb,hl],λy hy=>?_⟩
  ·unfold ic;rw[ah hk,cond_true]
   have ew:=kL out (λy=>!mh s (Ma s.Lg Lf)[k] y label) (step:=g9 s label (Ma s.Lg Lf) (out,(k:Int))) (by omega) ?_ ?_
   ·have htw:=mZ (λy=>!mh s (Ma s.Lg Lf)[k] y label) out;obtain⟨t1,t2⟩:=oO (λy=>!mh s (Ma s.Lg Lf)[k] y label) out;rw[ew,K_];generalize hn:(out.takeWhile λy=>!mh s (Ma s.Lg Lf)[k] y label).length=n at htw t1 t2 ⊢
    have hdw:(out.dropWhile λy=>!mh s (Ma s.Lg Lf)[k] y label).length=out.length - n:=by rw[← t2,Rn]
    have i1:OV 0 (n:Int) out.length=some (0,n):=by unfold OV;rw[if_pos ⟨by omega,by omega,by omega⟩];simp
    have i2:OV (n:Int) (out.length:Int) out.length=some (n,out.length - n):=by unfold OV;rw[if_pos ⟨by omega,by omega,by omega⟩];simp
    have s1:sub out 0 n=out.takeWhile λy=>!mh s (Ma s.Lg Lf)[k] y label:=by unfold sub;rw[QeC,t1]
    have s2:sub out n (out.length - n)=out.dropWhile λy=>!mh s (Ma s.Lg Lf)[k] y label:=by unfold sub;rw[WC (by rw[Rn];exact MO _),t2]
    simp only[i1,i2,K_,s1,s2]
    rw[ao (by simp;omega) (by omega),K_,aC hk,K_,La hk,K_,ao (by simp;omega) (by omega),K_,
     ao (by simp;omega) (by omega),K_]
    simp only[PX,PS,QfX];rfl
   ·intro j hj;unfold g9;dsimp only
    rw[ah hj,cond_true,aC hk,K_,La hk,K_,aC hj,K_,La hj,K_,
     IA h hx (hm _ (Nq hj)),K_,K_]
    cases mh s (Ma s.Lg Lf)[k] out[j] label<;>rfl
   ·unfold g9;dsimp only;rw[am];rfl
  ·rcases GS.1 hy with rfl | hy
   ·exact hx
   ·exact hm y hy
 ·rintro out _;unfold ic;rw[am];rfl
def Nk:Nat→JG→Str→Int→List Str
 | 0,_,Lf,_=>[Lf]
 | d+1,s,Lf,label=>if Ma s.Lg Lf = []then[Lf]else(O_ s Lf label).flatMap λx=>Nk d s x label
theorem EO{α : Type}{p:α→Bool}{x:α}:∀{l:List α},x∈l.takeWhile p→p x=true
 | [],h=>by simp at h
 | y::l,h=>by
  rw[List.takeWhile_cons]at h;split at h
  ·rename_i hy;rcases NH.1 h with rfl | h
   ·exact hy
   ·exact EO h
  ·simp at h
theorem jq{x p:Str}(hp:p≠[])(h:aL x=p):x.count 46=p.count 46+1:=by
 subst h;have hd:=QdR (p:=λy:UInt8=>y != 46) (l:=x.reverse)
 cases he:x.reverse.dropWhile (· != 46)with
 | nil=>exact absurd (by unfold aL;rw[he];rfl) hp
 | cons y r=>
  have hy:y=46:=by have:=QgQ (λy:UInt8=>y != 46) x.reverse;rw[he]at this;simpa using this
  subst hy
  have h1:(x.reverse.takeWhile λy=>y != 46).count 46=0:=by rw[List.count_eq_zero];intro hm;have:=EO hm;simp at this
  have h2:x.count 46=x.reverse.count 46:=(List.count_reverse).symm;rw[h2,← hd,QgT,h1,he];unfold aL;rw[he];simp
theorem wC{s:JG}(h:SC s)(label:Int):∀(d n:Nat)(Lf:Str),3≤Lf.count 46+d→d≤n→d≤3→
  bR (n+1) s Lf label=some (Nk d s Lf label)∧(Nk d s Lf label).length≤16 ^ d:=by
 intro d
 induction d with
 | zero=>
  intro n Lf hc _ _
  have hk:Ma s.Lg Lf = []:=by
   cases hk:Ma s.Lg Lf with
   | nil=>rfl
   | cons x l=>
    have hx:x∈Ma s.Lg Lf:=by rw[hk];simp
    obtain⟨hp,q,hq,rfl,ha⟩:=eW hx;have h1:=jq hp ha;have h2:=(jP h.c hq).deep;omega
  refine⟨?_,by simp[Nk]⟩
  show dH _ s Lf label=_;unfold dH
  have hp:O_ s Lf label = []:=by have:=rH s Lf label;rw[hk]at this;exact this.eq_nil
  rw[Ae h,K_,hp];rfl
 | succ d ih=>
  intro n Lf hc hn hd3
  obtain⟨n,rfl⟩:∃m,n=m+1:=⟨n - 1,by omega⟩
  have hperm:=rH s Lf label;have hlen:=hperm.length_eq;have hkl:=oz s.Lg Lf;have hq:=h.c.qs
  have e0:(Ma s.Lg Lf = [])↔O_ s Lf label = []:=⟨λe=>by rw[e]at hperm;exact hperm.eq_nil,λe=>by rw[e]at hperm;exact hperm.symm.eq_nil⟩
  have Y5:∀x∈O_ s Lf label,bR (n+1) s x label=some (Nk d s x label)∧(Nk d s x label).length≤16 ^ d:=by
   intro x hx;obtain⟨hp,q,hq',rfl,ha⟩:=eW (hperm.mem_iff.1 hx);have h1:=jq hp ha
   exact ih n q.LB (by omega) (by omega) (by omega)
  have hfl:∀(l:List Str),(∀x∈l,(Nk d s x label).length≤16 ^ d)→(l.flatMap λx=>Nk d s x label).length≤l.length*16 ^ d:=by
   intro l
   induction l with
   | nil=>intro _;simp
   | cons x l ihl=>
    intro hh
    have h1:=hh x (by simp)
    have h2:=ihl (λy hy=>hh y (by simp[hy]))
    rw[QfU,Lc,P5,TM];omega
  refine⟨?_,?_⟩
  ·show dH (bR (n+1)) s Lf label=_;unfold dH;rw[Ae h,K_];unfold Nk;by_cases hk:Ma s.Lg Lf = []
   ·rw[if_pos hk,e0.1 hk];rfl
   ·rw[if_neg hk];have hne:O_ s Lf label≠[]:=λe=>hk (e0.2 e);have hpos:0<(O_ s Lf label).length:=QgK.2 hne
    have e1:(((O_ s Lf label).length:Int) == 0)=false:=by rw[beq_eq_false_iff_ne];omega
    rw[e1,cond_false]
    have VH:16 ^ d≤16 ^ 3:=QdV (by omega) (by omega)
    have e:=(bF (λ(out:List Str) i=>(out,i)) (O_ s Lf label) (λout x=>out++Nk d s x label) (λk out=>out.length≤k*16 ^ d) (λout=>out)
     (step:=d7 s label (bR (n+1)) (O_ s Lf label)) (by omega) ?_ ?_ (s:=[]) (by simp)).1
    ·rw[e,K_]
     have gen:∀(l z:List Str),l.foldl (λout x=>out++Nk d s x label) z=z++l.flatMap λx=>Nk d s x label:=by
      intro l
      induction l with
      | nil=>intro z;simp
      | cons x l ihl=>intro z;rw[TN,ihl,QfU,PS]
     rw[gen];rfl
    ·intro k hk out ho;obtain⟨k1,k2⟩:=Y5 _ (Nq hk)
     have hmul:k*16 ^ d≤16*16 ^ 3:=QeO (by omega) VH
     refine⟨?_,by rw[Lc,TM];omega⟩
     unfold d7;rw[ah hk,cond_true];dsimp only
     rw[aC hk,K_,La hk,K_,k1,K_,ao (by omega) (by omega),K_]
    ·intro out _;unfold d7;rw[am];rfl
  ·unfold Nk;split
   ·simp;exact Nat.one_le_pow _ _ (by omega)
   ·have:=hfl _ (λx hx=>(Y5 x hx).2)
    have h2:(O_ s Lf label).length*16 ^ d≤16*16 ^ d:=Ro _ (by omega)
    rw[Nat.pow_succ,Nat.mul_comm (16 ^ d)];omega
def pu(s:JG)(label:Int):List Str:=Nk 3 s root label
theorem Fz{s:JG}(h:SC s)(label:Int):iM s label=some (pu s label):=by
 unfold iM lW
 rw[(wC h label 3 63 root (by decide) (by omega) (by omega)).1]
 rfl
theorem Dz{s:JG}(h:SC s)(label:Int):(pu s label).length≤4096:=(wC h label 3 63 root (by decide) (by omega) (by omega)).2
theorem zg{s:JG}(h:SC s)(label:Int):∀(d:Nat)(Lf:Str),3≤Lf.count 46+d→(Na s.Lg Lf).isSome=true→∀x∈Nk d s Lf label,Nu s.Lg x=true:=by
 intro d
 induction d with
 | zero=>
  intro Lf hc hf x hx
  have hx:x=Lf:=by simpa[Nk]using hx
  subst hx
  have hk:Ma s.Lg x = []:=by
   cases hk:Ma s.Lg x with
   | nil=>rfl
   | cons y l=>
    have hy:y∈Ma s.Lg x:=by rw[hk];simp
    obtain⟨hp,q,hq,rfl,ha⟩:=eW hy;have h1:=jq hp ha;have h2:=(jP h.c hq).deep;omega
  unfold Nu;rw[hf,hk];rfl
 | succ d ih=>
  intro Lf hc hf x hx;unfold Nk at hx;split at hx
  ·rename_i hk
   have hx:x=Lf:=by simpa using hx
   subst hx;unfold Nu;rw[hf,hk];rfl
  ·obtain⟨y,hy,hx⟩:=QhA.1 hx;obtain⟨hp,q,hq,rfl,ha⟩:=eW ((rH s Lf label).mem_iff.1 hy);have h1:=jq hp ha;obtain⟨q',e,_⟩:=pz hq
   exact ih q.LB (by omega) (by rw[e];rfl) x hx
theorem wK{c:Lg}(h:Nj c):(Na c root).isSome=true:=by obtain⟨q,h1,h2,_⟩:=h.root;have hq:q∈c.Lh:=Wx h1;obtain⟨q',e,_⟩:=pz hq;rw[← h2,e];rfl
theorem BA{s:JG}(h:SC s)(label:Int){x:Str}(hx:x∈pu s label):Nu s.Lg x=true:=zg h label 3 root (by decide) (wK h.c) x hx
theorem kC{c:Lg}(h:Nj c){x:Str}(hx:Nu c x=true):OA x:=by
 unfold Nu at hx;simp only[Ng]at hx
 cases hf:Na c x with
 | none=>rw[hf]at hx;simp at hx
 | some q=>obtain⟨h1,h2⟩:=jt hf;rw[← h2];exact jP h h1
def Mt(a:LM):Bool:=a.JG == 1||a.JG == 2
def zQ(out:List LM)(x:LM):List LM:=Uw (λx y=>!decide (y.LD≥x.LD)) out x
def pX(s:JG)(queue:Str):List LM:=(s.Lv.filter λa=>Mt a&&a.Ls == queue).foldl zQ []
def VT(s:JG)(queue:Str):List Int:=(pX s queue).map (·.Id)
theorem vw(s:JG)(queue:Str):(pX s queue).Perm (s.Lv.filter λa=>Mt a&&a.Ls == queue):=sa _ _
theorem jy(a:LM):aF a=some (Mt a):=by
 unfold aF Mt
 cases a.JG == 1<;>rfl
theorem s_{α β : Type}(p:α→Bool)(f:β→α→β):∀(l:List α)(z:β),l.foldl (λs x=>if p x=true then f s x else s) z=(l.filter p).foldl f z
 | [],z=>rfl
 | x::l,z=>by
  rw[TN,s_ p f l,Xc]
  split<;>rfl
theorem JK{s:JG}(h:M4 s)(queue:Str):kx s queue=some (VT s queue):=by
 unfold kx;have hn:=h.a
 have e:=(bF (λ(out:List LM) i=>(out,i)) s.Lv (λout x=>if(Mt x&&x.Ls == queue)=true then zQ out x else out) (λk out=>out.length≤k) (λout=>out)
  (step:=gP s queue) (by omega) ?_ ?_ (s:=[]) (by simp))
 ·obtain⟨e,hl⟩:=e;rw[s_]at e hl;rw[e,K_]
  have e2:=bQ (λ(l:List Int) i=>(l,i)) (pX s queue) (λ_=>true) (·.Id) (step:=dW (pX s queue)) (by unfold pX;omega) ?_ ?_
  ·show(loop (dW (pX s queue)) ([],0)).bind _=_;rw[e2]
   rw[QeN.2 (by simp)]
   rfl
  ·intro k hk l hl2
   have:(pX s queue).length≤100000:=by unfold pX;omega
   unfold dW;rw[ah hk,cond_true];dsimp only
   rw[aC hk,K_,La hk,K_,ao (by simp;omega) (by omega)]
   rfl
  ·intro l;unfold dW;rw[am];rfl
 ·intro k hk out ho;unfold gP;rw[ah hk,cond_true];dsimp only;rw[ai hk,K_,jy,K_];generalize hx:s.Lv[k]=x
  have hq:(bif !Mt x then some true else some (!(x.Ls == queue)))=some (!(Mt x&&x.Ls == queue)):=by cases Mt x<;>rfl
  rw[hq,K_]
  cases hp:(Mt x&&x.Ls == queue)with
  | false=>
   refine⟨?_,by simp;omega⟩
   simp
  | true=>
   refine⟨?_,by simp only[if_true];unfold zQ;rw[Bb];omega⟩
   simp only[PG,cond_false,if_true]
   have ew:=kL out (λy=>!(!decide (y.LD≥x.LD))) (step:=gW (out,(k:Int)) x) (by omega) ?_ ?_
   ·obtain⟨t1,t2⟩:=oO (λy:LM=>!(!decide (y.LD≥x.LD))) out;have htw:=mZ (λy:LM=>!(!decide (y.LD≥x.LD))) out;rw[ew,K_];generalize hn:(out.takeWhile λy:LM=>!(!decide (y.LD≥x.LD))).length=n at htw t1 t2 ⊢
    have hdw:(out.dropWhile λy:LM=>!(!decide (y.LD≥x.LD))).length=out.length - n:=by rw[← t2,Rn]
    have i1:OV 0 (n:Int) out.length=some (0,n):=by unfold OV;rw[if_pos ⟨by omega,by omega,by omega⟩];simp
    have i2:OV (n:Int) (out.length:Int) out.length=some (n,out.length - n):=by unfold OV;rw[if_pos ⟨by omega,by omega,by omega⟩];simp
    have s1:sub out 0 n=out.takeWhile λy:LM=>!(!decide (y.LD≥x.LD)):=by unfold sub;rw[QeC,t1]
    have s2:sub out n (out.length - n)=out.dropWhile λy:LM=>!(!decide (y.LD≥x.LD)):=by unfold sub;rw[WC (by rw[Rn];exact MO _),t2]
    simp only[i1,i2,K_,s1,s2]
    rw[ao (by simp only[Lc,Xb,P5,PX];omega) (by omega),K_,ao (by simp only[Lc,Xb,P5,PX];omega) (by omega),K_,ao (by simp only[Lc,Xb,P5,PX];omega) (by omega),K_]
    simp only[PX,PS,QfX];rfl
   ·intro j hj;unfold gW;dsimp only;rw[ah hj,cond_true,aC hj,K_,La hj,K_,K_]
    cases decide (out[j].LD≥x.LD)<;>rfl
   ·unfold gW;dsimp only;rw[am];rfl
 ·intro out _;unfold gP;rw[am];rfl
theorem Hh{s:JG}{queue:Str}{i:Int}(h:i∈VT s queue):∃a∈s.Lv,a.Id=i∧Mt a=true∧a.Ls=queue:=by unfold VT at h;obtain⟨a,ha,rfl⟩:=RA.1 h;have:=Ta.1 ((vw s queue).mem_iff.1 ha);simp only[Ng,beq_iff_eq]at this;exact⟨a,this.1,rfl,this.2.1,this.2.2⟩
theorem Il{s:JG}(queue:Str):(VT s queue).length≤s.Lv.length:=by unfold VT;rw[PI,(vw s queue).length_eq];exact TP _ _
end Go.Fx.D
