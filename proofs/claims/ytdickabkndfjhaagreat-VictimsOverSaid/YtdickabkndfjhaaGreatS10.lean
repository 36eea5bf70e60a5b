/-
  The reference manager: what holds of its state after every script. Conditions: none.
-/
import Derived.Test.YtdickabkndfjhaaGreatS9
namespace Go.Fx.D
open Go Go.Fx
set_option linter.unusedVariables false
set_option linter.unusedSimpArgs false
theorem xq{α : Type}[Inhabited α]{m:Option α}(h:Gv m λ_=>True)(z:α):m=some (m.getD z):=by obtain⟨a,rfl,_⟩:=h;rfl
theorem xI(x y:TT):Gv (f_ x y) λ_=>True:=by
 unfold f_
 repeat' (first | exact⟨_,rfl,trivial⟩ | refine ae (λ_=>?_) (λ_=>?_) | refine ad (P:=λ_=>True) ?_ (λ_ _=>?_))
theorem BN(a p:Vec):Gv (hU a p) λ_=>True:=by
 unfold hU;refine ad (xI _ _) λ_ _=>?_
 repeat' (first | exact⟨_,rfl,trivial⟩ | refine ae (λ_=>?_) (λ_=>?_))
theorem GA(a p b q:Vec):Gv (dq a p b q) λ_=>True:=by
 unfold dq;refine ad (P:=λ_=>True) ?_ λ_ _=>ae (λ_=>aa trivial) (λ_=>?_)
 ·rw[rJ,rJ,rJ,rJ]
  repeat' (first | exact⟨_,rfl,trivial⟩ | refine ae (λ_=>?_) (λ_=>?_) | refine ad (P:=λ_=>True) ?_ (λ_ _=>?_))
 ·exact ad (BN _ _) λ_ _=>ad (BN _ _) λ_ _=>ad (xI _ _) λ_ _=>aa trivial
def WK(a p b q:Vec):Int:=(dq a p b q).getD 0
theorem Im(a p b q:Vec):dq a p b q=some (WK a p b q):=xq (GA a p b q) 0
def lE(s:JF)(a b:Str)(label:Int):Bool:=
 let o:=WK (Ms s a label true 0) (NC s a label true) (Ms s b label true 0) (NC s b label true)
 decide (o<0)||(o == 0&&Op.bytesLess a b)
theorem IA{s:JF}(h:SC s){a b:Str}(ha:a.length≤1000000)(hb:b.length≤1000000)(label:Int):jr s a b label=some (lE s a b label):=by
 unfold jr lE;rw[jH h.b,K8,nt h ha,K8,jH h.b,K8,nt h hb,K8,Im,K8];dsimp only;generalize WK _ _ _ _=o
 cases decide (o<0)<;>cases (o == 0)<;>rfl
def Us{α : Type}(f:α→α→Bool)(out:List α)(x:α):List α:=(out.takeWhile λy=>!f x y)++x::out.dropWhile λy=>!f x y
theorem Af{α : Type}(f:α→α→Bool)(out:List α)(x:α):(Us f out x).length=out.length+1:=by unfold Us;have:=congrArg List.length (QdR (p:=λy=>!f x y) (l:=out));rw[La]at this ⊢;rw[PN];omega
theorem xH{α : Type}(f:α→α→Bool)(out:List α)(x:α):(Us f out x).Perm (x::out):=by unfold Us;refine List.perm_middle.trans ?_;rw[QdR]
theorem GX{α : Type}{f:α→α→Bool}{out:List α}{x y:α}:y∈Us f out x↔y=x∨y∈out:=by rw[(xH f out x).mem_iff,Nz]
def O7(s:JF)(Ld:Str)(label:Int):List Str:=(LP s.Lf Ld).foldl (Us λa b=>lE s a b label) []
theorem rM{α : Type}(f:α→α→Bool):∀(l out:List α),(l.foldl (Us f) out).Perm (l.reverse++out)
 | [],out=>.refl _
 | x::l,out=>by rw[TG,List.reverse_cons,P5];exact(rM f l _).trans (QeG _ (xH f out x))
theorem rF{α : Type}(f:α→α→Bool)(l:List α):(l.foldl (Us f) []).Perm l:=by have:=rM f l [];rw[Wq]at this;exact this.trans l.reverse_perm
theorem rg(s:JF)(Ld:Str)(label:Int):(O7 s Ld label).Perm (LP s.Lf Ld):=rF _ _
theorem jh{c:Lf}(h:Nj c){q:Lm}(hq:q∈c.Lg):Ox q.LC:=by obtain⟨i,hi,rfl⟩:=Ul hq;exact(h.q i hi).Ld
theorem K1{c:Lf}(h:Nj c){p x:Str}(hx:x∈LP c p):Ox x:=by obtain⟨_,q,hq,rfl,_⟩:=dK hx;exact jh h hq
theorem zP{s:JF}(h:SC s)(Ld:Str)(label:Int):kb s Ld label=some (O7 s Ld label):=by
 unfold kb;rw[mI h.b.cf,K8];have hkl:=nK s.Lf Ld;have hq:=h.c.qs;have e:=(cW (λ(out:List Str) i=>(out,i)) (LP s.Lf Ld) (Us λa b=>lE s a b label) (λk out=>out.length=k∧∀y∈out,y.length≤1000000) (λout=>out)
  (step:=go s label (LP s.Lf Ld)) (by omega) ?_ ?_ (s:=[]) ⟨rfl,by simp⟩).1
 ·rw[e,K8];rfl
 ·rintro k hk out ⟨hl,hm⟩
  have hx:((LP s.Lf Ld)[k]).length≤1000000:=by have:=(K1 h.c (NQ hk)).len;omega
  refine⟨?_,by rw[Af,hl],λy hy=>?_⟩
  ·unfold go;rw[ah hk,cond_true]
   have ew:=jT out (λy=>!lE s (LP s.Lf Ld)[k] y label) (step:=gS s label (LP s.Lf Ld) (out,(k:Int))) (by omega) ?_ ?_
   ·have htw:=mg (λy=>!lE s (LP s.Lf Ld)[k] y label) out;obtain⟨t1,t2⟩:=nX (λy=>!lE s (LP s.Lf Ld)[k] y label) out;rw[ew,K8];generalize hn:(out.takeWhile λy=>!lE s (LP s.Lf Ld)[k] y label).length=n at htw t1 t2 ⊢
    have hdw:(out.dropWhile λy=>!lE s (LP s.Lf Ld)[k] y label).length=out.length - n:=by rw[← t2,Ro]
    have i1:OQ 0 (n:Int) out.length=some (0,n):=by unfold OQ;rw[if_pos ⟨by omega,by omega,by omega⟩];simp
    have i2:OQ (n:Int) (out.length:Int) out.length=some (n,out.length - n):=by unfold OQ;rw[if_pos ⟨by omega,by omega,by omega⟩];simp
    have s1:sub out 0 n=out.takeWhile λy=>!lE s (LP s.Lf Ld)[k] y label:=by unfold sub;rw[Z5,t1]
    have s2:sub out n (out.length - n)=out.dropWhile λy=>!lE s (LP s.Lf Ld)[k] y label:=by unfold sub;rw[Wv (by rw[Ro];exact MN _),t2]
    simp only[i1,i2,K8,s1,s2]
    rw[aj (by simp;omega) (by omega),K8,aC hk,K8,K9 hk,K8,aj (by simp;omega) (by omega),K8,
     aj (by simp;omega) (by omega),K8]
    simp only[PE,P5,QfZ];rfl
   ·intro j hj;unfold gS;dsimp only
    rw[ah hj,cond_true,aC hk,K8,K9 hk,K8,aC hj,K8,K9 hj,K8,
     IA h hx (hm _ (NQ hj)),K8,K8]
    cases lE s (LP s.Lf Ld)[k] out[j] label<;>rfl
   ·unfold gS;dsimp only;rw[ar];rfl
  ·rcases GX.1 hy with rfl | hy
   ·exact hx
   ·exact hm y hy
 ·rintro out _;unfold go;rw[ar];rfl
def Nk:Nat→JF→Str→Int→List Str
 | 0,_,Ld,_=>[Ld]
 | d+1,s,Ld,label=>if LP s.Lf Ld = []then[Ld]else(O7 s Ld label).flatMap λx=>Nk d s x label
theorem Fz{α : Type}{p:α→Bool}{x:α}:∀{l:List α},x∈l.takeWhile p→p x=true
 | [],h=>by simp at h
 | y::l,h=>by
  rw[List.takeWhile_cons]at h;split at h
  ·rename_i hy;rcases Nz.1 h with rfl | h
   ·exact hy
   ·exact Fz h
  ·simp at h
theorem dQ{x p:Str}(hp:p≠[])(h:aF x=p):x.count 46=p.count 46+1:=by
 subst h;have hd:=QdR (p:=λy:UInt8=>y != 46) (l:=x.reverse)
 cases he:x.reverse.dropWhile (· != 46)with
 | nil=>exact absurd (by unfold aF;rw[he];rfl) hp
 | cons y r=>
  have hy:y=46:=by have:=QgT (λy:UInt8=>y != 46) x.reverse;rw[he]at this;simpa using this
  subst hy
  have h1:(x.reverse.takeWhile λy=>y != 46).count 46=0:=by rw[List.count_eq_zero];intro hm;have:=Fz hm;simp at this
  have h2:x.count 46=x.reverse.count 46:=(List.count_reverse).symm;rw[h2,← hd,QgX,h1,he];unfold aF;rw[he];simp
theorem wC{s:JF}(h:SC s)(label:Int):∀(d n:Nat)(Ld:Str),3≤Ld.count 46+d→d≤n→d≤3→
  bN (n+1) s Ld label=some (Nk d s Ld label)∧(Nk d s Ld label).length≤16 ^ d:=by
 intro d
 induction d with
 | zero=>
  intro n Ld hc _ _
  have hk:LP s.Lf Ld = []:=by
   cases hk:LP s.Lf Ld with
   | nil=>rfl
   | cons x l=>
    have hx:x∈LP s.Lf Ld:=by rw[hk];simp
    obtain⟨hp,q,hq,rfl,ha⟩:=dK hx;have h1:=dQ hp ha;have h2:=(jh h.c hq).deep;omega
  refine⟨?_,by simp[Nk]⟩
  show dc _ s Ld label=_;unfold dc
  have hp:O7 s Ld label = []:=by have:=rg s Ld label;rw[hk]at this;exact this.eq_nil
  rw[zP h,K8,hp];rfl
 | succ d ih=>
  intro n Ld hc hn hd3
  obtain⟨n,rfl⟩:∃m,n=m+1:=⟨n - 1,by omega⟩
  have hperm:=rg s Ld label;have hlen:=hperm.length_eq;have hkl:=nK s.Lf Ld;have hq:=h.c.qs
  have e0:(LP s.Lf Ld = [])↔O7 s Ld label = []:=⟨λe=>by rw[e]at hperm;exact hperm.eq_nil,λe=>by rw[e]at hperm;exact hperm.symm.eq_nil⟩
  have YO:∀x∈O7 s Ld label,bN (n+1) s x label=some (Nk d s x label)∧(Nk d s x label).length≤16 ^ d:=by
   intro x hx;obtain⟨hp,q,hq',rfl,ha⟩:=dK (hperm.mem_iff.1 hx);have h1:=dQ hp ha
   exact ih n q.LC (by omega) (by omega) (by omega)
  have hfl:∀(l:List Str),(∀x∈l,(Nk d s x label).length≤16 ^ d)→(l.flatMap λx=>Nk d s x label).length≤l.length*16 ^ d:=by
   intro l
   induction l with
   | nil=>intro _;simp
   | cons x l ihl=>
    intro hh
    have h1:=hh x (by simp)
    have h2:=ihl (λy hy=>hh y (by simp[hy]))
    rw[QfX,La,PN,TF];omega
  refine⟨?_,?_⟩
  ·show dc (bN (n+1)) s Ld label=_;unfold dc;rw[zP h,K8];unfold Nk;by_cases hk:LP s.Lf Ld = []
   ·rw[if_pos hk,e0.1 hk];rfl
   ·rw[if_neg hk];have hne:O7 s Ld label≠[]:=λe=>hk (e0.2 e);have hpos:0<(O7 s Ld label).length:=QgM.2 hne
    have e1:(((O7 s Ld label).length:Int) == 0)=false:=by rw[beq_eq_false_iff_ne];omega
    rw[e1,cond_false]
    have VF:16 ^ d≤16 ^ 3:=QdV (by omega) (by omega)
    have e:=(cW (λ(out:List Str) i=>(out,i)) (O7 s Ld label) (λout x=>out++Nk d s x label) (λk out=>out.length≤k*16 ^ d) (λout=>out)
     (step:=dP s label (bN (n+1)) (O7 s Ld label)) (by omega) ?_ ?_ (s:=[]) (by simp)).1
    ·rw[e,K8]
     have gen:∀(l z:List Str),l.foldl (λout x=>out++Nk d s x label) z=z++l.flatMap λx=>Nk d s x label:=by
      intro l
      induction l with
      | nil=>intro z;simp
      | cons x l ihl=>intro z;rw[TG,ihl,QfX,P5]
     rw[gen];rfl
    ·intro k hk out ho;obtain⟨k1,k2⟩:=YO _ (NQ hk)
     have hmul:k*16 ^ d≤16*16 ^ 3:=QeS (by omega) VF
     refine⟨?_,by rw[La,TF];omega⟩
     unfold dP;rw[ah hk,cond_true];dsimp only
     rw[aC hk,K8,K9 hk,K8,k1,K8,aj (by omega) (by omega),K8]
    ·intro out _;unfold dP;rw[ar];rfl
  ·unfold Nk;split
   ·simp;exact Nat.one_le_pow _ _ (by omega)
   ·have:=hfl _ (λx hx=>(YO x hx).2)
    have h2:(O7 s Ld label).length*16 ^ d≤16*16 ^ d:=Rp _ (by omega)
    rw[Nat.pow_succ,Nat.mul_comm (16 ^ d)];omega
def oO(s:JF)(label:Int):List Str:=Nk 3 s root label
theorem E6{s:JF}(h:SC s)(label:Int):ii s label=some (oO s label):=by
 unfold ii ls
 rw[(wC h label 3 63 root (by decide) (by omega) (by omega)).1]
 rfl
theorem C1{s:JF}(h:SC s)(label:Int):(oO s label).length≤4096:=(wC h label 3 63 root (by decide) (by omega) (by omega)).2
theorem yM{s:JF}(h:SC s)(label:Int):∀(d:Nat)(Ld:Str),3≤Ld.count 46+d→(Nb s.Lf Ld).isSome=true→∀x∈Nk d s Ld label,Nq s.Lf x=true:=by
 intro d
 induction d with
 | zero=>
  intro Ld hc hf x hx
  have hx:x=Ld:=by simpa[Nk]using hx
  subst hx
  have hk:LP s.Lf x = []:=by
   cases hk:LP s.Lf x with
   | nil=>rfl
   | cons y l=>
    have hy:y∈LP s.Lf x:=by rw[hk];simp
    obtain⟨hp,q,hq,rfl,ha⟩:=dK hy;have h1:=dQ hp ha;have h2:=(jh h.c hq).deep;omega
  unfold Nq;rw[hf,hk];rfl
 | succ d ih=>
  intro Ld hc hf x hx;unfold Nk at hx;split at hx
  ·rename_i hk
   have hx:x=Ld:=by simpa using hx
   subst hx;unfold Nq;rw[hf,hk];rfl
  ·obtain⟨y,hy,hx⟩:=QfL.1 hx;obtain⟨hp,q,hq,rfl,ha⟩:=dK ((rg s Ld label).mem_iff.1 hy);have h1:=dQ hp ha;obtain⟨q',e,_⟩:=oM hq
   exact ih q.LC (by omega) (by rw[e];rfl) x hx
theorem vH{c:Lf}(h:Nj c):(Nb c root).isSome=true:=by obtain⟨q,h1,h2,_⟩:=h.root;have hq:q∈c.Lg:=Wu h1;obtain⟨q',e,_⟩:=oM hq;rw[← h2,e];rfl
theorem Br{s:JF}(h:SC s)(label:Int){x:Str}(hx:x∈oO s label):Nq s.Lf x=true:=yM h label 3 root (by decide) (vH h.c) x hx
theorem nF{c:Lf}(h:Nj c){x:Str}(hx:Nq c x=true):Ox x:=by
 unfold Nq at hx;simp only[Np]at hx
 cases hf:Nb c x with
 | none=>rw[hf]at hx;simp at hx
 | some q=>obtain⟨h1,h2⟩:=iX hf;rw[← h2];exact jh h h1
def Mx(a:LD):Bool:=a.JF == 1||a.JF == 2
def zm(out:List LD)(x:LD):List LD:=Us (λx y=>!decide (y.LA≥x.LA)) out x
def pM(s:JF)(queue:Str):List LD:=(s.Lr.filter λa=>Mx a&&a.Lm == queue).foldl zm []
def VQ(s:JF)(queue:Str):List Int:=(pM s queue).map (·.Id)
theorem uR(s:JF)(queue:Str):(pM s queue).Perm (s.Lr.filter λa=>Mx a&&a.Lm == queue):=rF _ _
theorem mK(a:LD):aY a=some (Mx a):=by
 unfold aY Mx
 cases a.JF == 1<;>rfl
theorem sD{α β : Type}(p:α→Bool)(f:β→α→β):∀(l:List α)(z:β),l.foldl (λs x=>if p x=true then f s x else s) z=(l.filter p).foldl f z
 | [],z=>rfl
 | x::l,z=>by
  rw[TG,sD p f l,UE]
  split<;>rfl
theorem JM{s:JF}(h:M_ s)(queue:Str):kn s queue=some (VQ s queue):=by
 unfold kn;have hn:=h.a
 have e:=(cW (λ(out:List LD) i=>(out,i)) s.Lr (λout x=>if(Mx x&&x.Lm == queue)=true then zm out x else out) (λk out=>out.length≤k) (λout=>out)
  (step:=gq s queue) (by omega) ?_ ?_ (s:=[]) (by simp))
 ·obtain⟨e,hl⟩:=e;rw[sD]at e hl;rw[e,K8]
  have e2:=bU (λ(l:List Int) i=>(l,i)) (pM s queue) (λ_=>true) (·.Id) (step:=dw (pM s queue)) (by unfold pM;omega) ?_ ?_
  ·show(loop (dw (pM s queue)) ([],0)).bind _=_;rw[e2]
   rw[QeR.2 (by simp)]
   rfl
  ·intro k hk l hl2
   have:(pM s queue).length≤100000:=by unfold pM;omega
   unfold dw;rw[ah hk,cond_true];dsimp only
   rw[aC hk,K8,K9 hk,K8,aj (by simp;omega) (by omega)]
   rfl
  ·intro l;unfold dw;rw[ar];rfl
 ·intro k hk out ho;unfold gq;rw[ah hk,cond_true];dsimp only;rw[ai hk,K8,mK,K8];generalize hx:s.Lr[k]=x
  have hq:(bif !Mx x then some true else some (!(x.Lm == queue)))=some (!(Mx x&&x.Lm == queue)):=by cases Mx x<;>rfl
  rw[hq,K8]
  cases hp:(Mx x&&x.Lm == queue)with
  | false=>
   refine⟨?_,by simp;omega⟩
   simp
  | true=>
   refine⟨?_,by simp only[if_true];unfold zm;rw[Af];omega⟩
   simp only[PZ,cond_false,if_true]
   have ew:=jT out (λy=>!(!decide (y.LA≥x.LA))) (step:=gL (out,(k:Int)) x) (by omega) ?_ ?_
   ·obtain⟨t1,t2⟩:=nX (λy:LD=>!(!decide (y.LA≥x.LA))) out;have htw:=mg (λy:LD=>!(!decide (y.LA≥x.LA))) out;rw[ew,K8];generalize hn:(out.takeWhile λy:LD=>!(!decide (y.LA≥x.LA))).length=n at htw t1 t2 ⊢
    have hdw:(out.dropWhile λy:LD=>!(!decide (y.LA≥x.LA))).length=out.length - n:=by rw[← t2,Ro]
    have i1:OQ 0 (n:Int) out.length=some (0,n):=by unfold OQ;rw[if_pos ⟨by omega,by omega,by omega⟩];simp
    have i2:OQ (n:Int) (out.length:Int) out.length=some (n,out.length - n):=by unfold OQ;rw[if_pos ⟨by omega,by omega,by omega⟩];simp
    have s1:sub out 0 n=out.takeWhile λy:LD=>!(!decide (y.LA≥x.LA)):=by unfold sub;rw[Z5,t1]
    have s2:sub out n (out.length - n)=out.dropWhile λy:LD=>!(!decide (y.LA≥x.LA)):=by unfold sub;rw[Wv (by rw[Ro];exact MN _),t2]
    simp only[i1,i2,K8,s1,s2]
    rw[aj (by simp only[La,WV,PN,PE];omega) (by omega),K8,aj (by simp only[La,WV,PN,PE];omega) (by omega),K8,aj (by simp only[La,WV,PN,PE];omega) (by omega),K8]
    simp only[PE,P5,QfZ];rfl
   ·intro j hj;unfold gL;dsimp only;rw[ah hj,cond_true,aC hj,K8,K9 hj,K8,K8]
    cases decide (out[j].LA≥x.LA)<;>rfl
   ·unfold gL;dsimp only;rw[ar];rfl
 ·intro out _;unfold gq;rw[ar];rfl
theorem HC{s:JF}{queue:Str}{i:Int}(h:i∈VQ s queue):∃a∈s.Lr,a.Id=i∧Mx a=true∧a.Lm=queue:=by unfold VQ at h;obtain⟨a,ha,rfl⟩:=Ra.1 h;have:=PL.1 ((uR s queue).mem_iff.1 ha);simp only[Np,beq_iff_eq]at this;exact⟨a,this.1,rfl,this.2.1,this.2.2⟩
theorem GJ{s:JF}(queue:Str):(VQ s queue).length≤s.Lr.length:=by unfold VQ;rw[Py,(uR s queue).length_eq];exact Um _ _
end Go.Fx.D
