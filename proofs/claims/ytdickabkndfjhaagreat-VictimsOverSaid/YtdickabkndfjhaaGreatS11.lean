/-
  The reference manager: what holds of its state after every script. Conditions: none.
-/
import Derived.Test.YtdickabkndfjhaaGreatS10
namespace Go.Fx.D
open Go Go.Fx
set_option linter.unusedVariables false
set_option linter.unusedSimpArgs false
theorem sY{s:JF}{i:Int}{a:LD}(h:MV s i=some a):a∈s.Lr∧a.Id=i:=nr h
theorem MI.MV{E:Sz}{N:Nat}{s:JF}(h:MI E N s){a:LD}(ha:a∈s.Lr):MV s a.Id=some a:=oW h.Px ha
theorem MI.TU{E:Sz}{N:Nat}{s:JF}(h:MI E N s){a b:LD}(ha:a∈s.Lr)(hb:b∈s.Lr)(e:a.Id=b.Id):a=b:=by have h1:=h.MV ha;rw[e,h.MV hb]at h1;cases h1;rfl
theorem MI.noc{E:Sz}{N:Nat}{s:JF}(h:MI E N s){a:LD}(ha:a∈s.Lr):a.JF=2∨∀c∈s.Lc,c.LD≠a.Id:=by
 by_cases h2:a.JF=2
 ·exact .inl h2
 ·refine .inr λc hc e=>?_;obtain⟨b,hb,e1,e2⟩:=(h.ck c hc).app
  have:=h.TU ha hb (by omega)
  subst this;exact h2 e2
theorem Dw{a:LD}(h:Mx a=true):a.JF=1∨a.JF=2:=by unfold Mx at h;simpa using h
theorem GM(a:Ask)(n:LB):Gv (br a n) λ_=>True:=by
 unfold br
 repeat' (first | exact⟨_,rfl,trivial⟩ | refine ae (λ_=>?_) (λ_=>?_) | refine ad (P:=λ_=>True) ?_ (λ_ _=>?_))
def KI(a:Ask)(n:LB):Int:=(br a n).getD 0
theorem zX(a:Ask)(n:LB):br a n=some (KI a n):=xq (GM a n) 0
theorem KV(a:Ask)(n:LB):Gv (ce a n) λ_=>True:=by
 unfold ce;rw[zX,K8]
 repeat' (first | exact⟨_,rfl,trivial⟩ | refine ae (λ_=>?_) (λ_=>?_))
def aaj(a:Ask)(n:LB):Bool:=(ce a n).getD false
theorem E7(a:Ask)(n:LB):ce a n=some (aaj a n):=xq (KV a n) false
theorem yD{a:Ask}{n:LB}(h:aaj a n=true):a.Ll=n.Ll:=by
 apply Classical.byContradiction;intro hne
 have h1:br a n=some 4:=by
  unfold br
  rw[show(n.Ll != a.Ll)=true from bne_iff_ne.2 λe=>hne e.symm]
  cases n.Up<;>rfl
 unfold aaj ce at h;rw[h1]at h;cases h
structure Keep(s t:JF):Prop where
 cf:t.Lf=s.Lf
 nd:t.Ls=s.Ls
 sl:t.LG=s.LG
 cs:t.Lc=s.Lc
 pl:t.LU=s.LU
 now:t.Now=s.Now
 ep:t.L9=s.L9
 sq:t.Seq=s.Seq
 ap:∀a∈s.Lr,∃b∈t.Lr,b.Id=a.Id∧b.JF=a.JF∧b.Lm=a.Lm∧b.User=a.User∧b.Lj=a.Lj
 pa:∀b∈t.Lr,∃a∈s.Lr,b.Id=a.Id∧b.JF=a.JF∧b.Lm=a.Lm∧b.User=a.User
theorem Keep.refl(s:JF):Keep s s:=⟨rfl,rfl,rfl,rfl,rfl,rfl,rfl,rfl,λa ha=>⟨a,ha,rfl,rfl,rfl,rfl,rfl⟩,λa ha=>⟨a,ha,rfl,rfl,rfl,rfl⟩⟩
theorem Keep.trans{s t u:JF}(h:Keep s t)(k:Keep t u):Keep s u:=by
 refine⟨k.cf.trans h.cf,k.nd.trans h.nd,k.sl.trans h.sl,k.cs.trans h.cs,k.pl.trans h.pl,k.now.trans h.now,k.ep.trans h.ep,k.sq.trans h.sq,λa ha=>?_,λc hc=>?_⟩
 rotate_left
 ·obtain⟨b,hb,e1,e2,e3,e4⟩:=k.pa c hc;obtain⟨a,ha,f1,f2,f3,f4⟩:=h.pa b hb;exact⟨a,ha,e1.trans f1,e2.trans f2,e3.trans f3,e4.trans f4⟩
 obtain⟨b,hb,e1,e2,e3,e4⟩:=h.ap a ha;obtain⟨c,hc,f1,f2,f3,f4⟩:=k.ap b hb;exact⟨c,hc,f1.trans e1,f2.trans e2,f3.trans e3,f4.1.trans e4.1,f4.2.trans e4.2⟩
def tE(a:LD)(prio:Int):LD:=⟨a.Id,a.JF,a.Lm,a.User,a.LA,a.Lj,UM a.Mr prio,a.NZ,a.Nf,a.Mv,a.Nr,a.Told,a.N7⟩
theorem vI(p:Int)(x:Ask):(Pe p x).LA=x.LA:=by unfold Pe;split<;>rfl
theorem Jp{l:List Ask}(h:l.Pairwise λx y=>x.LA<y.LA)(p:Int):(UM l p).Pairwise λx y=>x.LA<y.LA:=by unfold UM;rw[QfW];refine h.imp λ{a b} hab=>?_;rw[vI,vI];exact hab
theorem wt{p:Int}{x y:Ask}(h:Te p x=some y):y.LA=x.LA:=by
 unfold Te at h;split at h
 ·split at h
  ·cases h
  ·cases h;rfl
 ·cases h;rfl
theorem Cr(p:Int):∀{l:List Ask},l.Pairwise (λx y=>x.LA<y.LA)→(Sk l p).Pairwise λx y=>x.LA<y.LA
 | [],_=>by simp[Sk]
 | x::l,h=>by
  have h1:=(SV.1 h).1;have ih:=Cr p (SV.1 h).2;unfold Sk at ih ⊢;rw[List.filterMap_cons];split
  ·exact ih
  ·rename_i y hy;refine SV.2 ⟨λz hz=>?_,ih⟩;obtain⟨u,hu,e⟩:=List.mem_filterMap.1 hz;rw[wt hy,wt e];exact h1 u hu
theorem JU{N:Nat}{c:Lf}{a:LD}(h:Pw N c a)(prio:Int):Pw N c (tE a prio):=by
 refine⟨h.st,h.user,h.Ld,h.leaf,h.R6,by show(a.Mr.map _).length≤8;rw[Py];exact h.al,?_,h.gr,h.ki,h.to,h.lo,Jp h.ap prio,λe x hx=>?_⟩
 rotate_left
 ·obtain⟨y,hy,rfl⟩:=Ra.1 hx;have:=h.fst e y hy;unfold Pe;split
  ·exact this
  ·exact this
 intro x hx;obtain⟨y,hy,rfl⟩:=Ra.1 hx;have:=h.ask y hy;unfold Pe;split
 ·exact⟨this.label,this.size,this.count⟩
 ·exact this
theorem MI.miss{N:Nat}{s:JF}(h:MI ZN N s){a:LD}(ha:a∈s.Lr)(prio:Int):Inv N (NA s (tE a prio))∧Keep s (NA s (tE a prio)):=by
 refine⟨h.aai ⟨a,ha,rfl,λe=>⟨e,rfl⟩⟩ (JU (h.ak a ha) prio) (h.en.2.2 a ha) (h.noc (a:=a) ha:a.JF=2∨∀c∈s.Lc,c.LD≠a.Id),⟨rfl,rfl,rfl,rfl,rfl,rfl,rfl,rfl,λb hb=>?_,λb hb=>?_⟩⟩
 rotate_left
 ·rcases(aJ h.Px).1 hb with rfl | ⟨hb,_⟩
  ·exact⟨a,ha,rfl,rfl,rfl,rfl⟩
  ·exact⟨b,hb,rfl,rfl,rfl,rfl⟩
 by_cases he:b.Id=a.Id
 ·have:=h.TU hb ha he;subst this;exact⟨tE b prio,(aJ h.Px).2 (.inl rfl),rfl,rfl,rfl,rfl,rfl⟩
 ·exact⟨b,(aJ h.Px).2 (.inr ⟨hb,he⟩),rfl,rfl,rfl,rfl,rfl⟩
theorem Ka{c:Lf}{l:List Ask}(h:∀x∈l,NI c x)(prio:Int):(Sk l prio).length≤l.length∧∀x∈Sk l prio,NI c x:=by
 refine⟨List.length_filterMap_le _ _,λx hx=>?_⟩;obtain⟨y,hy,e⟩:=List.mem_filterMap.1 hx;have:=h y hy;unfold Te at e;split at e
 ·split at e
  ·cases e
  ·cases e
   exact⟨this.label,this.size,by have:=this.count;dsimp only;omega⟩
 ·cases e;exact this
theorem Hz{α : Type}(id:α→Int)(l:List α)(a:α):(Ph id l a).length=l.length+1:=by unfold Ph;have:=congrArg List.length (QdR (p:=λx=>decide (id x<id a)) (l:=l));rw[La]at this ⊢;rw[PN];omega
theorem Fw{α : Type}{id:α→Int}{a:α}:∀{l:List α},(∀x∈l,id x<id a)→Ph id l a=l++[a]:=by
 intro l h;unfold Ph
 have h1:∀l:List α,(∀x∈l,id x<id a)→(l.takeWhile λx=>decide (id x<id a))=l∧(l.dropWhile λx=>decide (id x<id a)) = []:=by
  intro l
  induction l with
  | nil=>intro _;exact⟨rfl,rfl⟩
  | cons x l ih=>
   intro h;have:=ih λy hy=>h y (Uh _ hy);have hx:=h x ZT
   rw[QdP (by simpa using hx),QdQ (by simpa using hx),this.1,this.2]
   exact⟨rfl,rfl⟩
 rw[(h1 l h).1,(h1 l h).2]
theorem MI.grant{N:Nat}{s:JF}(h:MI ZN N s){n:LB}(hn:n∈s.Ls)(hup:n.Up=true){a:LD}(ha:a∈s.Lr)(hl:Mx a=true){x:Ask}(hx:NI s.Lf x)(hf:RL x.LV (VP s n.Id)=true)(hc:s.Lc.length<200)(hq:s.Seq<1048575)(hm:a.JF=1→n.Ll=0∧x.LV.Mem=a.Lj.Mem):Inv (N+1) (sL s n a x):=by
 have hid:=Ky h.ep h.sq
 have hlt:∀c∈s.Lc,c.Id<(Oa s n a x).Id:=by intro c hc;have:=(h.ck c hc).id;show c.Id<Yn s;omega
 have e:Ph (·.Id) s.Lc (Oa s n a x)=NR (·.Id) s.Lc (Oa s n a x):=AX λc hc=>by have:=hlt c hc;omega
 have eA:Ph (·.Id) s.Lc (Oa s n a x)=s.Lc++[Oa s n a x]:=Fw (id:=λc:Lv=>c.Id) hlt;have hak:=h.ak a ha;have hlv:=Dw hl
 have hap:Pw (N+1) s.Lf (R_ s a x):=by
  unfold R_;split
  ·exact⟨by dsimp only;omega,hak.user,hak.Ld,λ_=>hak.leaf hlv,hak.R6,by simp,by simp,XA hak.gr,XA hak.ki,XA hak.to,XA hak.lo,by simp,λe=>by have e:(2:Int)=1:=e;omega⟩
  ·have ht:=Ka hak.ask x.LA
   exact⟨hak.st,hak.user,hak.Ld,hak.leaf,hak.R6,Rb ht.1 hak.al,ht.2,by have:=hak.gr;simp;omega,XA hak.ki,XA hak.to,XA hak.lo,Cr x.LA hak.ap,λe=>absurd e (by assumption)⟩
 have WH:(R_ s a x).Id=a.Id:=by unfold R_;split<;>rfl
 have hgm:(R_ s a x).Lj=a.Lj:=by unfold R_;split<;>rfl
 have afE:(R_ s a x).JF=2:=by
  unfold R_;split
  ·rfl
  ·dsimp only;omega
 have hin:R_ s a x∈(sL s n a x).Lr:=(aJ h.Px).2 (.inl rfl)
 have hgr:∀b∈(sL s n a x).Lr,GrS s.L9 (s.Seq+1) b:=by
  have old:∀b∈s.Lr,GrS s.L9 (s.Seq+1) b:=λb hb=>⟨(h.en.2.2 b hb).1,λg hg=>by have:=(h.en.2.2 b hb).2 g hg;omega⟩
  intro b hb;rcases(aJ h.Px).1 hb with rfl | ⟨hb,_⟩
  ·have ho:=h.en.2.2 a ha;have hn:=old a ha;unfold R_;split
   ·exact hn
   ·refine⟨?_,λg hg=>?_⟩
    ·show(a.Mv++[Yn s]).Pairwise _;rw[QdN]
     refine⟨ho.1,by simp,λg hg y hy=>?_⟩
     rw[Lb]at hy;subst hy;have:=ho.2 g hg;omega
    ·have hg:g∈a.Mv++[Yn s]:=hg;rcases OB.1 hg with hg | hg
     ·exact hn.2 g hg
     ·rw[Lb]at hg;subst hg;omega
  ·exact old b hb
 refine⟨h.cf,h.nl,h.ns,h.nk,?_,lS h.Px,?_,?_,?_,?_,h.ss,h.sk,h.pl,h.ps,h.pk,h.now,h.ep,?_,⟨by have:=h.en.1;show s.L9≤((N+1:Nat):Int);omega,by have:=h.en.2.1;show s.Now≤((N+1:Nat):Int);omega,hgr⟩,h.sd.Xv,λc hc=>?_,h.sd.slt,λc hc=>?_,λm hm=>?_,λb hb e2=>?_⟩
 ·show(NR (·.Id) s.Lr (R_ s a x)).length≤16;rw[mq.2 ⟨a,ha,WH.symm⟩ h.Px];exact h.al
 ·intro b hb;rcases(aJ h.Px).1 hb with rfl | ⟨hb,_⟩
  ·exact hap
  ·exact(h.ak b hb).mono (by omega)
 ·show(Ph (·.Id) s.Lc (Oa s n a x)).length≤200;rw[Hz];omega
 ·show(Ph (·.Id) s.Lc (Oa s n a x)).Pairwise _;rw[e];exact lS h.cs
 ·intro c hc;have hc:c∈Ph (·.Id) s.Lc (Oa s n a x):=hc;rw[e]at hc;rcases(aJ h.cs).1 hc with rfl | ⟨hc,_⟩
  ·have hnk:=h.nk n hn;refine⟨hx.size,⟨_,hin,WH,afE⟩,hnk.2,?_,λem=>?_⟩
   rotate_left
   ·have em:(a.JF == 1)=true:=em
    obtain⟨m1,m2⟩:=hm (by simpa using em)
    refine⟨m1,λd hd e'=>?_⟩;rcases(aJ h.Px).1 hd with rfl | ⟨hd,hne⟩
    ·rw[hgm];exact m2
    ·exact absurd (show d.Id=a.Id from e') (by rw[WH]at hne;exact hne)
   show 0≤Yn s∧Yn s≤s.L9*1048576+(s.Seq+1);have:=h.ep;have:=h.sq;omega
  ·have:=h.ck c hc;refine⟨this.size,?_,this.label,?_,λem=>⟨(this.R6 em).1,λd hd e'=>?_⟩⟩
   rotate_left
   ·have:=this.id;show 0≤c.Id∧c.Id≤s.L9*1048576+(s.Seq+1);omega
   ·rcases(aJ h.Px).1 hd with rfl | ⟨hd,_⟩
    ·rw[hgm];exact(this.R6 em).2 a ha (by omega)
    ·exact(this.R6 em).2 d hd e'
   ·obtain⟨b,hb,e1,e2⟩:=this.app;by_cases he:b.Id=(R_ s a x).Id
    ·exact⟨_,hin,by omega,afE⟩
    ·exact⟨b,(aJ h.Px).2 (.inr ⟨hb,he⟩),e1,e2⟩
 ·have:=h.sq;show 0≤s.Seq+1∧s.Seq+1≤1048575;omega
 ·have hc:c∈Ph (·.Id) s.Lc (Oa s n a x):=hc;rw[eA]at hc;rcases OB.1 hc with hc | hc
  ·exact h.sd.Ta c hc
  ·rw[Lb]at hc;subst hc;exact⟨n,hn,rfl,rfl,.inl hup⟩
 ·have hc:c∈Ph (·.Id) s.Lc (Oa s n a x):=hc;rw[eA]at hc;rcases OB.1 hc with hc | hc
  ·exact h.sd.Vr c hc
  ·rw[Lb]at hc;subst hc;show(0:Int)≤0∧(0:Int)≤imax s.Now 1;unfold imax
   split<;>omega
 ·have hfm:=h.sd.fit m hm
  have hfe:jd (sL s n a x) m.Id=if n.Id=m.Id then MB (jd s m.Id) x.LV else jd s m.Id:=by
   show Oh (((Ph (·.Id) s.Lc (Oa s n a x)).filter λc=>c.LB == m.Id).map (·.LV))=_;rw[eA,Z7,UD,Gw];by_cases e2:n.Id=m.Id
   ·rw[if_pos e2,QdW (by show(n.Id == m.Id)=true;simpa using e2),List.filter_nil]
    show MB _ (Oh [x.LV])=_;rw[GR];rfl
   ·rw[if_neg e2,Z9 (by show¬ (n.Id == m.Id)=true;simpa using e2),List.filter_nil]
    show MB _ (Oh [])=_;rw[y7];unfold MB jd;dsimp only;rw[Int.add_zero,Int.add_zero]
  rw[hfe];by_cases e2:n.Id=m.Id
  ·have em:n=m:=eL (id:=λx:LB=>x.Id) h.ns hn hm e2;subst em;rw[if_pos rfl];have hat:mR s n.Id=some n:=oW h.ns hn;unfold VP at hf;rw[hat]at hf;dsimp only at hf;rw[if_pos hup]at hf;unfold RL UJ imax at hf;simp only[Np,decide_eq_true_eq]at hf;have hx2:=hx.size;unfold RB at hx2;unfold MB;dsimp only;obtain⟨f1,f2⟩:=hf
   split at f1<;>split at f2<;>omega
  ·rw[if_neg e2];exact hfm
 ·refine .inr ?_;show(Rx (Ph (·.Id) s.Lc (Oa s n a x)) b.Id).length=1
  have hpm:Rx (Ph (·.Id) s.Lc (Oa s n a x)) b.Id=Rx s.Lc b.Id++Rx [Oa s n a x] b.Id:=by unfold Rx;rw[eA,Z7]
  rw[hpm];rcases(aJ h.Px).1 hb with rfl | ⟨hb,hbi⟩
  ·rw[WH];by_cases e3:a.JF=1
   ·have h0:Rx s.Lc a.Id = []:=QeA.2 λc hc=>by
     rcases h.noc ha with e4 | e4
     ·omega
     ·have:=e4 c hc;simp[this]
    have h1:Rx [Oa s n a x] a.Id = [Oa s n a x]:=QdW (by show(a.Id == a.Id&&(a.JF == 1))=true;simp[e3])
    rw[h0,h1];rfl
   ·have h1:Rx [Oa s n a x] a.Id = []:=Z9 (by show¬ (a.Id == a.Id&&(a.JF == 1))=true;simp[e3])
    rw[h1,Wq]
    have h2:a.JF=2:=by omega
    rcases h.sd.one a ha h2 with e4 | e4
    ·cases e4
    ·exact e4
  ·have hne:b.Id≠a.Id:=by rw[WH]at hbi;exact hbi
   have h1:Rx [Oa s n a x] b.Id = []:=Z9 (by show¬ (a.Id == b.Id&&(a.JF == 1))=true;simp[Ne.symm hne])
   rw[h1,Wq];rcases h.sd.one b hb e2 with e4 | e4
   ·cases e4
   ·exact e4
def aaC(N:Nat)(s:JF)(r:JF×Int×Lv):Prop:=(r.2.1=0→Inv N r.1∧Keep s r.1)∧(r.2.1≠0→Inv (N+1) r.1∧r.1.Lf=s.Lf∧r.1.Ls=s.Ls)
theorem tZ{N:Nat}{s t:JF}{c:Lv}(h:Inv N t)(k:Keep s t):aaC N s (t,0,c):=⟨λ_=>⟨h,k⟩,λh=>absurd rfl h⟩
theorem AJ{N:Nat}{s t:JF}{c:Lv}{k:Int}(hk:k≠0)(h:Inv (N+1) t)(h1:t.Lf=s.Lf)(h2:t.Ls=s.Ls):aaC N s (t,k,c):=⟨λh=>absurd h hk,λ_=>⟨h,h1,h2⟩⟩
theorem MI.R5{E:Sz}{N:Nat}{s:JF}(h:MI E N s){a:LD}(ha:a∈s.Lr):a.Lm.length≤1000000:=by have:=(h.ak a ha).Ld.len;omega
theorem KR{N:Nat}{s:JF}(h:Inv N s)(hN:N≤1000000){n:LB}(hn:n∈s.Ls)(hup:n.Up=true)(hfree:∀y∈s.LG,y.LB≠n.Id){a:LD}(ha:a∈s.Lr)(hl:Mx a=true){x:Ask}(hx:NI s.Lf x)(hc:s.Lc.length<200)(hq:s.Seq<1048575)(hfs:a.JF=1→x.Ll=0∧x.LV.Mem=a.Lj.Mem)(first:Bool) :
  Gv (kC s n a x first) (aaC N s):=by
 have hsc:=h.sc;have hak:=h.ak a ha;unfold kC;rw[FA hsc (h.R5 ha) hx.size.vb,K8];refine ad (P:=λ_=>True) ?_ λq _=>?_
 ·rw[zX,K8,lW,K8]
  repeat' (first | exact⟨_,rfl,trivial⟩ | refine ae (λ_=>?_) (λ_=>?_))
 refine ae (λ_=>aa (tZ h (.refl s))) λ_=>?_;rw[E7,K8];refine ae (λ_=>?_) λhmy=>?_
 ·refine ad (P:=λt=>Inv N t∧Keep s t) ?_ λt ht=>aa (tZ ht.1 ht.2);refine ae (λ_=>?_) λ_=>aa ⟨h,.refl s⟩
  rw[IV (by have:=hak.al;omega),K8]
  refine ad (P:=λt=>t=NA s (tE a x.LA)) (bO (nI h.z _) rfl) ?_;rintro t rfl;exact aa (h.miss ha x.LA)
 ·rw[CO hsc (h.R5 ha) n.Ll hx.size.vb,K8];refine ae (λ_=>aa (tZ h (.refl s))) λ_=>?_;rw[BR h.sb,K8,lW,K8];refine ae (λhf=>?_) λ_=>?_
  ·rw[Bc h.z h.sq n (by have:=hak.al;omega) (λy hy=>by have:=(hak.ask y hy).count;omega) (by have:=hak.gr;omega) x,K8]
   exact aa (AJ (by simp) (h.grant hn hup ha hl hx hf hc hq λe=>⟨by rw[← yD (by simpa using hmy)];exact(hfs e).1,(hfs e).2⟩) rfl rfl)
  ·refine ad (P:=λ_=>True) ?_ λq1 _=>?_
   ·rw[GO h.z,K8]
    repeat' (first | exact⟨_,rfl,trivial⟩ | refine ae (λ_=>?_) (λ_=>?_))
   ·refine ae (λ_=>?_) λ_=>aa (tZ h (.refl s));rw[JX h.z,K8]
    exact aa (AJ (by simp) ((h.hold hfree ⟨n,hn,rfl,hup⟩).mono (by omega)) rfl rfl)
structure RI(N:Nat)(n:LB)(s t:JF):Prop where
 i:Inv N t
 k:Keep s t
def RQ(N:Nat)(n:LB)(s:JF)(r:(JF×Int×Lv) ⊕ (JF×JF×Lv)):Prop:=
 match r with
 | .inl q=>q.2.1≠0∧Inv (N+1) q.1∧q.1.Lf=s.Lf∧q.1.Ls=s.Ls
 | .inr p=>RI N n s p.1
theorem Ek{N:Nat}(hN:N≤1000000){s:JF}{n:LB}(hn:n∈s.Ls)(hup:n.Up=true)(hfree:∀y∈s.LG,y.LB≠n.Id)(hc:s.Lc.length<200)(hq:s.Seq<1048575)(first:Bool){ids:List Int}{k:Nat}(hk:k<ids.length)
  {a0:LD} (ha0:a0∈s.Lr) (hid:a0.Id=ids[k]) (hl:Mx a0=true) {x2:LD×Bool} (hx2:x2.1.Mr.length≤1000∧∀x∈x2.1.Mr,NI s.Lf x∧(a0.JF=1→x.Ll=0∧x.LV.Mem=a0.Lj.Mem)) {t1:JF×JF×Lv} (ht:RI N n s t1.1) :
  Gv (loop (dg n first ids (t1.1,t1.2.1,t1.2.2,(k:Int)) x2) (t1.1,t1.2.1,t1.2.2,0)) (RQ N n s):=by
 refine ay (λ(p:JF×JF×Lv) i=>(p.1,p.2.1,p.2.2,i)) x2.1.Mr.length (λ_ p=>RI N n s p.1) (step:=dg n first ids (t1.1,t1.2.1,t1.2.2,(k:Int)) x2) (by omega) ?_ ?_ (s:=t1) ht
 ·intro j hj p hp;obtain⟨b,hb,e1,e2,e3,e4⟩:=hp.k.ap a0 ha0;unfold dg;dsimp only;rw[ah hj,cond_true,aC hk,K8,K9 hk,K8,co hp.i.z,← hid,← e1,hp.i.MV hb,K8,ai hj,K8]
  have hlb:Mx b=true:=by unfold Mx at hl ⊢;rw[e2];exact hl
  have adr:NI p.1.Lf x2.1.Mr[j]:=by rw[hp.k.cf];exact(hx2.2 _ (NQ hj)).1
  refine ad (KR hp.i hN (by rw[hp.k.nd];exact hn) hup (by rw[hp.k.sl];exact hfree) hb hlb adr (by rw[hp.k.cs];exact hc) (by rw[hp.k.sq];exact hq) (λe=>by rw[e4.2];exact(hx2.2 _ (NQ hj)).2 (e2.symm.trans e)) first) ?_
  rintro⟨u,kd,c⟩ ⟨r0,r1⟩;dsimp only at r0 r1 ⊢;refine ae (λhz=>?_) λhz=>?_
  ·have hz:kd≠0:=by simpa using hz
   obtain⟨q1,q2,q3⟩:=r1 hz;exact aa (.inr ⟨_,rfl,hz,q1,q2.trans hp.k.cf,q3.trans hp.k.nd⟩)
  ·have hz:kd=0:=by simpa using hz
   obtain⟨q1,q2⟩:=r0 hz;exact aa (.inl ⟨(u,p.2.1,p.2.2),rfl,⟨q1,hp.k.trans q2⟩⟩)
 ·intro p hp;unfold dg;dsimp only;rw[ar,cond_false];exact aa ⟨_,rfl,hp⟩
theorem Fs{N:Nat}(hN:N≤1000000){s:JF}{n:LB}(hn:n∈s.Ls)(hup:n.Up=true)(hfree:∀y∈s.LG,y.LB≠n.Id)(hc:s.Lc.length<200)(hq:s.Seq<1048575)(first:Bool){leaves:List Str}{k:Nat}(hk:k<leaves.length)(hll:leaves[k].length≤1000000)
  {ids:List Int} (hil:ids.length≤100000) (Oc:∀i∈ids,∃a∈s.Lr,a.Id=i∧Mx a=true∧a.Lm=leaves[k]) {t:JF×JF×Lv} (ht:RI N n s t.1) :
  Gv (loop (de n first leaves (t.1,t.2.1,t.2.2,(k:Int)) ids) (t.1,t.2.1,t.2.2,0)) (RQ N n s):=by
 refine ay (λ(p:JF×JF×Lv) i=>(p.1,p.2.1,p.2.2,i)) ids.length (λ_ p=>RI N n s p.1) (step:=de n first leaves (t.1,t.2.1,t.2.2,(k:Int)) ids) (by omega) ?_ ?_ (s:=t) ht
 ·intro j hj p hp;obtain⟨a0,ha0,hid,hl,hqu⟩:=Oc _ (NQ hj);obtain⟨b,hb,e1,e2,e3,e4⟩:=hp.k.ap a0 ha0;have hbk:=hp.i.ak b hb;unfold de;dsimp only;rw[ah hj,cond_true]
  refine ad (P:=λr=>match r with | .inl p=>RI N n s p.1 | .inr q=>q.2.1≠0∧Inv (N+1) q.1∧q.1.Lf=s.Lf∧q.1.Ls=s.Ls) ?_ ?_
  ·rw[aC hj,K8,K9 hj,K8,co hp.i.z,← hid,← e1,hp.i.MV hb,K8,aC hk,K8,K9 hk,K8,
    CN hp.i.sc hll,K8]
   refine ae (λ_=>aa hp) λ_=>?_
   refine ad (Ek hN hn hup hfree hc hq first hj ha0 hid hl ⟨by have:=hbk.al;show b.Mr.length≤1000;omega,λx hx=>⟨by rw[← hp.k.cf];exact hbk.ask x hx,λe=>by rw[← e4.2];exact hbk.fst (e2.trans e) x hx⟩⟩ hp) ?_
   rintro(q | q) hr
   ·exact aa hr
   ·exact aa hr
  ·rintro(q | q) hr
   ·exact aa (.inl ⟨q,rfl,hr⟩)
   ·exact aa (.inr ⟨_,rfl,hr⟩)
 ·intro p hp;unfold de;dsimp only;rw[ar,cond_false];exact aa ⟨_,rfl,hp⟩
theorem zy{N:Nat}(hN:N≤1000000){s:JF}(h:Inv N s){n:LB}(hn:n∈s.Ls)(hup:n.Up=true)(hfree:∀y∈s.LG,y.LB≠n.Id)(hc:s.Lc.length<200)(hq:s.Seq<1048575)(first:Bool) :
  Gv (ff s n first) (aaC N s):=by
 unfold ff;rw[E6 h.sc,K8];have hll:=C1 h.sc n.Ll;refine ad (P:=RQ N n s) ?_ ?_
 ·refine ay (λ(p:JF×JF×Lv) i=>(p.1,p.2.1,p.2.2,i)) (oO s n.Ll).length (λ_ p=>RI N n s p.1) (step:=fx n first (oO s n.Ll)) (by omega) ?_ ?_
   (s:=(s,(⟨⟨[],[]⟩,[],[],[],[],[],0,0,0⟩:JF),(⟨0,0,0,⟨0,0⟩,0,0,false,0⟩:Lv))) ⟨h,.refl s⟩
  ·intro j hj p hp;unfold fx;dsimp only;rw[ah hj,cond_true,aC hj,K8,K9 hj,K8,JM hp.i.z,K8]
   have hlen:((oO s n.Ll)[j]).length≤1000000:=by have:=(nF h.cf (Br h.sc n.Ll (NQ hj))).len;omega
   have hn':n∈p.1.Ls:=by rw[hp.k.nd];exact hn
   refine ad (Fs hN (s:=p.1) hn' hup (by rw[hp.k.sl];exact hfree) (by rw[hp.k.cs];exact hc) (by rw[hp.k.sq];exact hq) first hj hlen (by have:=GJ (s:=p.1) (oO s n.Ll)[j];have:=hp.i.al;omega) (λi hi=>HC hi) (t:=p) ⟨hp.i,.refl _⟩) ?_
   rintro(q | q) hr
   ·exact aa (.inr ⟨_,rfl,hr.1,hr.2.1,hr.2.2.1.trans hp.k.cf,hr.2.2.2.trans hp.k.nd⟩)
   ·exact aa (.inl ⟨q,rfl,⟨hr.i,hp.k.trans hr.k⟩⟩)
  ·intro p hp;unfold fx;dsimp only;rw[ar,cond_false];exact aa ⟨_,rfl,hp⟩
 ·rintro(q | q) hr
  ·exact aa (AJ hr.1 hr.2.1 hr.2.2.1 hr.2.2.2)
  ·exact aa (tZ hr.i hr.k)
end Go.Fx.D
