/-
  The reference manager: what holds of its state after every script. Conditions: none.
-/
import Derived.Test.YtdickabkndfjhaaGreatS10
namespace Go.Fx.D
open Go Go.Fx
set_option linter.unusedVariables false
set_option linter.unusedSimpArgs false
theorem tM{s:JG}{i:Int}{a:LM}(h:M9 s i=some a):a∈s.Lv∧a.Id=i:=nT h
theorem MJ.M9{E:SA}{N:Nat}{s:JG}(h:MJ E N s){a:LM}(ha:a∈s.Lv):M9 s a.Id=some a:=uH h.Rb ha
theorem MJ.aa8{E:SA}{N:Nat}{s:JG}(h:MJ E N s){a b:LM}(ha:a∈s.Lv)(hb:b∈s.Lv)(e:a.Id=b.Id):a=b:=by have h1:=h.M9 ha;rw[e,h.M9 hb]at h1;cases h1;rfl
theorem MJ.noc{E:SA}{N:Nat}{s:JG}(h:MJ E N s){a:LM}(ha:a∈s.Lv):a.JG=2∨∀c∈s.Kl,c.LM≠a.Id:=by
 by_cases h2:a.JG=2
 ·exact .inl h2
 ·refine .inr λc hc e=>?_;obtain⟨b,hb,e1,e2⟩:=(h.ck c hc).app
  have:=h.aa8 ha hb (by omega)
  subst this;exact h2 e2
theorem ww{a:LM}(h:Mt a=true):a.JG=1∨a.JG=2:=by unfold Mt at h;simpa using h
theorem Gg(a:Ask)(n:LG):Gv (cE a n) λ_=>True:=by
 unfold cE
 repeat' (first | exact⟨_,rfl,trivial⟩ | refine ae (λ_=>?_) (λ_=>?_) | refine ad (P:=λ_=>True) ?_ (λ_ _=>?_))
def KT(a:Ask)(n:LG):Int:=(cE a n).getD 0
theorem AS(a:Ask)(n:LG):cE a n=some (KT a n):=xC (Gg a n) 0
theorem KE(a:Ask)(n:LG):Gv (df a n) λ_=>True:=by
 unfold df;rw[AS,K_]
 repeat' (first | exact⟨_,rfl,trivial⟩ | refine ae (λ_=>?_) (λ_=>?_))
def an6(a:Ask)(n:LG):Bool:=(df a n).getD false
theorem Eb(a:Ask)(n:LG):df a n=some (an6 a n):=xC (KE a n) false
structure Keep(s t:JG):Prop where
 cf:t.Lg=s.Lg
 nd:t.Lu=s.Lu
 sl:t.LH=s.LH
 cs:t.Kl=s.Kl
 pl:t.LJ=s.LJ
 now:t.Now=s.Now
 ep:t.L8=s.L8
 sq:t.Seq=s.Seq
 ap:∀a∈s.Lv,∃b∈t.Lv,b.Id=a.Id∧b.JG=a.JG∧b.Ls=a.Ls∧b.User=a.User
 pa:∀b∈t.Lv,∃a∈s.Lv,b.Id=a.Id∧b.JG=a.JG∧b.Ls=a.Ls∧b.User=a.User
theorem Keep.refl(s:JG):Keep s s:=⟨rfl,rfl,rfl,rfl,rfl,rfl,rfl,rfl,λa ha=>⟨a,ha,rfl,rfl,rfl,rfl⟩,λa ha=>⟨a,ha,rfl,rfl,rfl,rfl⟩⟩
theorem Keep.trans{s t u:JG}(h:Keep s t)(k:Keep t u):Keep s u:=by
 refine⟨k.cf.trans h.cf,k.nd.trans h.nd,k.sl.trans h.sl,k.cs.trans h.cs,k.pl.trans h.pl,k.now.trans h.now,k.ep.trans h.ep,k.sq.trans h.sq,λa ha=>?_,λc hc=>?_⟩
 rotate_left
 ·obtain⟨b,hb,e1,e2,e3,e4⟩:=k.pa c hc;obtain⟨a,ha,f1,f2,f3,f4⟩:=h.pa b hb;exact⟨a,ha,e1.trans f1,e2.trans f2,e3.trans f3,e4.trans f4⟩
 obtain⟨b,hb,e1,e2,e3,e4⟩:=h.ap a ha;obtain⟨c,hc,f1,f2,f3,f4⟩:=k.ap b hb;exact⟨c,hc,f1.trans e1,f2.trans e2,f3.trans e3,f4.trans e4⟩
def uc(a:LM)(prio:Int):LM:=⟨a.Id,a.JG,a.Ls,a.User,a.LD,a.Lp,UU a.Mq prio,a.NV,a.Nc,a.MC,a.Np,a.Told,a.NW⟩
theorem xr(p:Int)(x:Ask):(Py p x).LD=x.LD:=by unfold Py;split<;>rfl
theorem JV{l:List Ask}(h:l.Pairwise λx y=>x.LD<y.LD)(p:Int):(UU l p).Pairwise λx y=>x.LD<y.LD:=by unfold UU;rw[QfT];refine h.imp λ{a b} hab=>?_;rw[xr,xr];exact hab
theorem wD{p:Int}{x y:Ask}(h:Ti p x=some y):y.LD=x.LD:=by
 unfold Ti at h;split at h
 ·split at h
  ·cases h
  ·cases h;rfl
 ·cases h;rfl
theorem C2(p:Int):∀{l:List Ask},l.Pairwise (λx y=>x.LD<y.LD)→(Si l p).Pairwise λx y=>x.LD<y.LD
 | [],_=>by simp[Si]
 | x::l,h=>by
  have h1:=(SY.1 h).1;have ih:=C2 p (SY.1 h).2;unfold Si at ih ⊢;rw[List.filterMap_cons];split
  ·exact ih
  ·rename_i y hy;refine SY.2 ⟨λz hz=>?_,ih⟩;obtain⟨u,hu,e⟩:=List.mem_filterMap.1 hz;rw[wD hy,wD e];exact h1 u hu
theorem JT{N:Nat}{c:Lg}{a:LM}(h:PD N c a)(prio:Int):PD N c (uc a prio):=by
 refine⟨h.st,h.user,h.Lf,h.leaf,h.X9,by show(a.Mq.map _).length≤8;rw[PI];exact h.al,?_,h.gr,h.ki,h.to,h.lo,JV h.ap prio⟩
 intro x hx;obtain⟨y,hy,rfl⟩:=RA.1 hx;have:=h.ask y hy;unfold Py;split
 ·exact⟨this.label,this.size,this.count⟩
 ·exact this
theorem MJ.miss{N:Nat}{s:JG}(h:MJ Z9 N s){a:LM}(ha:a∈s.Lv)(prio:Int):Inv N (Pe s (uc a prio))∧Keep s (Pe s (uc a prio)):=by
 refine⟨h.aaB ⟨a,ha,rfl,λe=>e⟩ (JT (h.ak a ha) prio) (h.en.2.2 a ha) (h.noc (a:=a) ha:a.JG=2∨∀c∈s.Kl,c.LM≠a.Id),⟨rfl,rfl,rfl,rfl,rfl,rfl,rfl,rfl,λb hb=>?_,λb hb=>?_⟩⟩
 rotate_left
 ·rcases(aS h.Rb).1 hb with rfl | ⟨hb,_⟩
  ·exact⟨a,ha,rfl,rfl,rfl,rfl⟩
  ·exact⟨b,hb,rfl,rfl,rfl,rfl⟩
 by_cases he:b.Id=a.Id
 ·have:=h.aa8 hb ha he;subst this;exact⟨uc b prio,(aS h.Rb).2 (.inl rfl),rfl,rfl,rfl,rfl⟩
 ·exact⟨b,(aS h.Rb).2 (.inr ⟨hb,he⟩),rfl,rfl,rfl,rfl⟩
theorem I6{c:Lg}{l:List Ask}(h:∀x∈l,NM c x)(prio:Int):(Si l prio).length≤l.length∧∀x∈Si l prio,NM c x:=by
 refine⟨List.length_filterMap_le _ _,λx hx=>?_⟩;obtain⟨y,hy,e⟩:=List.mem_filterMap.1 hx;have:=h y hy;unfold Ti at e;split at e
 ·split at e
  ·cases e
  ·cases e
   exact⟨this.label,this.size,by have:=this.count;dsimp only;omega⟩
 ·cases e;exact this
theorem HT{α : Type}(id:α→Int)(l:List α)(a:α):(Pm id l a).length=l.length+1:=by unfold Pm;have:=congrArg List.length (QdR (p:=λx=>decide (id x<id a)) (l:=l));rw[Lc]at this ⊢;rw[P5];omega
theorem FQ{α : Type}{id:α→Int}{a:α}:∀{l:List α},(∀x∈l,id x<id a)→Pm id l a=l++[a]:=by
 intro l h;unfold Pm
 have h1:∀l:List α,(∀x∈l,id x<id a)→(l.takeWhile λx=>decide (id x<id a))=l∧(l.dropWhile λx=>decide (id x<id a)) = []:=by
  intro l
  induction l with
  | nil=>intro _;exact⟨rfl,rfl⟩
  | cons x l ih=>
   intro h;have:=ih λy hy=>h y (U_ _ hy);have hx:=h x YS
   rw[QdP (by simpa using hx),QdQ (by simpa using hx),this.1,this.2]
   exact⟨rfl,rfl⟩
 rw[(h1 l h).1,(h1 l h).2]
theorem MJ.grant{N:Nat}{s:JG}(h:MJ Z9 N s){n:LG}(hn:n∈s.Lu)(hup:n.Up=true){a:LM}(ha:a∈s.Lv)(hl:Mt a=true){x:Ask}(hx:NM s.Lg x)(hf:RL x.LY (VR s n.Id)=true)(hc:s.Kl.length<200)(hq:s.Seq<1048575):Inv (N+1) (tI s n a x):=by
 have hid:=K6 h.ep h.sq
 have hlt:∀c∈s.Kl,c.Id<(Oa s n a x).Id:=by intro c hc;have:=(h.ck c hc).id;show c.Id<YD s;omega
 have e:Pm (·.Id) s.Kl (Oa s n a x)=N9 (·.Id) s.Kl (Oa s n a x):=Av λc hc=>by have:=hlt c hc;omega
 have eA:Pm (·.Id) s.Kl (Oa s n a x)=s.Kl++[Oa s n a x]:=FQ (id:=λc:Lx=>c.Id) hlt;have hak:=h.ak a ha;have hlv:=ww hl
 have hap:PD (N+1) s.Lg (SE s a x):=by
  unfold SE;split
  ·exact⟨by dsimp only;omega,hak.user,hak.Lf,λ_=>hak.leaf hlv,hak.X9,by simp,by simp,Yd hak.gr,Yd hak.ki,Yd hak.to,Yd hak.lo,by simp⟩
  ·have ht:=I6 hak.ask x.LD
   exact⟨hak.st,hak.user,hak.Lf,hak.leaf,hak.X9,P6 ht.1 hak.al,ht.2,by have:=hak.gr;simp;omega,Yd hak.ki,Yd hak.to,Yd hak.lo,C2 x.LD hak.ap⟩
 have Yo:(SE s a x).Id=a.Id:=by unfold SE;split<;>rfl
 have afV:(SE s a x).JG=2:=by
  unfold SE;split
  ·rfl
  ·dsimp only;omega
 have hin:SE s a x∈(tI s n a x).Lv:=(aS h.Rb).2 (.inl rfl)
 have hgr:∀b∈(tI s n a x).Lv,GrS s.L8 (s.Seq+1) b:=by
  have old:∀b∈s.Lv,GrS s.L8 (s.Seq+1) b:=λb hb=>⟨(h.en.2.2 b hb).1,λg hg=>by have:=(h.en.2.2 b hb).2 g hg;omega⟩
  intro b hb;rcases(aS h.Rb).1 hb with rfl | ⟨hb,_⟩
  ·have ho:=h.en.2.2 a ha;have hn:=old a ha;unfold SE;split
   ·exact hn
   ·refine⟨?_,λg hg=>?_⟩
    ·show(a.MC++[YD s]).Pairwise _;rw[QcX]
     refine⟨ho.1,by simp,λg hg y hy=>?_⟩
     rw[Ld]at hy;subst hy;have:=ho.2 g hg;omega
    ·have hg:g∈a.MC++[YD s]:=hg;rcases N_.1 hg with hg | hg
     ·exact hn.2 g hg
     ·rw[Ld]at hg;subst hg;omega
  ·exact old b hb
 refine⟨h.cf,h.nl,h.ns,h.nk,?_,mu h.Rb,?_,?_,?_,?_,h.ss,h.sk,h.pl,h.ps,h.pk,h.now,h.ep,?_,⟨by have:=h.en.1;show s.L8≤((N+1:Nat):Int);omega,by have:=h.en.2.1;show s.Now≤((N+1:Nat):Int);omega,hgr⟩,h.sd.Xa,λc hc=>?_,h.sd.slt,λc hc=>?_,λm hm=>?_,λb hb e2=>?_⟩
 ·show(N9 (·.Id) s.Lv (SE s a x)).length≤16;rw[mT.2 ⟨a,ha,Yo.symm⟩ h.Rb];exact h.al
 ·intro b hb;rcases(aS h.Rb).1 hb with rfl | ⟨hb,_⟩
  ·exact hap
  ·exact(h.ak b hb).mono (by omega)
 ·show(Pm (·.Id) s.Kl (Oa s n a x)).length≤200;rw[HT];omega
 ·show(Pm (·.Id) s.Kl (Oa s n a x)).Pairwise _;rw[e];exact mu h.cs
 ·intro c hc;have hc:c∈Pm (·.Id) s.Kl (Oa s n a x):=hc;rw[e]at hc;rcases(aS h.cs).1 hc with rfl | ⟨hc,_⟩
  ·have hnk:=h.nk n hn;refine⟨hx.size,⟨_,hin,Yo,afV⟩,hnk.2,?_⟩;show 0≤YD s∧YD s≤s.L8*1048576+(s.Seq+1);have:=h.ep;have:=h.sq;omega
  ·have:=h.ck c hc;refine⟨this.size,?_,this.label,?_⟩
   ·obtain⟨b,hb,e1,e2⟩:=this.app;by_cases he:b.Id=(SE s a x).Id
    ·exact⟨_,hin,by omega,afV⟩
    ·exact⟨b,(aS h.Rb).2 (.inr ⟨hb,he⟩),e1,e2⟩
   ·have:=this.id;show 0≤c.Id∧c.Id≤s.L8*1048576+(s.Seq+1);omega
 ·have:=h.sq;show 0≤s.Seq+1∧s.Seq+1≤1048575;omega
 ·have hc:c∈Pm (·.Id) s.Kl (Oa s n a x):=hc;rw[eA]at hc;rcases N_.1 hc with hc | hc
  ·exact h.sd.S9 c hc
  ·rw[Ld]at hc;subst hc;exact⟨n,hn,rfl,rfl,.inl hup⟩
 ·have hc:c∈Pm (·.Id) s.Kl (Oa s n a x):=hc;rw[eA]at hc;rcases N_.1 hc with hc | hc
  ·exact h.sd.Vq c hc
  ·rw[Ld]at hc;subst hc;show(0:Int)≤0∧(0:Int)≤imax s.Now 1;unfold imax
   split<;>omega
 ·have hfm:=h.sd.fit m hm
  have hfe:jD (tI s n a x) m.Id=if n.Id=m.Id then MF (jD s m.Id) x.LY else jD s m.Id:=by
   show Ol (((Pm (·.Id) s.Kl (Oa s n a x)).filter λc=>c.LG == m.Id).map (·.LY))=_;rw[eA,YR,Uo,H7];by_cases e2:n.Id=m.Id
   ·rw[if_pos e2,QfK (by show(n.Id == m.Id)=true;simpa using e2),List.filter_nil]
    show MF _ (Ol [x.LY])=_;rw[Ig];rfl
   ·rw[if_neg e2,QdW (by show¬ (n.Id == m.Id)=true;simpa using e2),List.filter_nil]
    show MF _ (Ol [])=_;rw[Bd];unfold MF jD;dsimp only;rw[QgR,QgR]
  rw[hfe];by_cases e2:n.Id=m.Id
  ·have em:n=m:=gC (id:=λx:LG=>x.Id) h.ns hn hm e2;subst em;rw[if_pos rfl];have hat:l_ s n.Id=some n:=uH h.ns hn;unfold VR at hf;rw[hat]at hf;dsimp only at hf;rw[if_pos hup]at hf;unfold RL UN imax at hf;simp only[Ng,decide_eq_true_eq]at hf;have hx2:=hx.size;unfold RJ at hx2;unfold MF;dsimp only;obtain⟨f1,f2⟩:=hf
   split at f1<;>split at f2<;>omega
  ·rw[if_neg e2];exact hfm
 ·refine .inr ?_;show(OP (Pm (·.Id) s.Kl (Oa s n a x)) b.Id).length=1
  have hpm:OP (Pm (·.Id) s.Kl (Oa s n a x)) b.Id=OP s.Kl b.Id++OP [Oa s n a x] b.Id:=by unfold OP;rw[eA,YR]
  rw[hpm];rcases(aS h.Rb).1 hb with rfl | ⟨hb,hbi⟩
  ·rw[Yo];by_cases e3:a.JG=1
   ·have h0:OP s.Kl a.Id = []:=QdS.2 λc hc=>by
     rcases h.noc ha with e4 | e4
     ·omega
     ·have:=e4 c hc;simp[this]
    have h1:OP [Oa s n a x] a.Id = [Oa s n a x]:=QfK (by show(a.Id == a.Id&&(a.JG == 1))=true;simp[e3])
    rw[h0,h1];rfl
   ·have h1:OP [Oa s n a x] a.Id = []:=QdW (by show¬ (a.Id == a.Id&&(a.JG == 1))=true;simp[e3])
    rw[h1,Wo]
    have h2:a.JG=2:=by omega
    rcases h.sd.one a ha h2 with e4 | e4
    ·cases e4
    ·exact e4
  ·have hne:b.Id≠a.Id:=by rw[Yo]at hbi;exact hbi
   have h1:OP [Oa s n a x] b.Id = []:=QdW (by show¬ (a.Id == b.Id&&(a.JG == 1))=true;simp[Ne.symm hne])
   rw[h1,Wo];rcases h.sd.one b hb e2 with e4 | e4
   ·cases e4
   ·exact e4
def aaS(N:Nat)(s:JG)(r:JG×Int×Lx):Prop:=(r.2.1=0→Inv N r.1∧Keep s r.1)∧(r.2.1≠0→Inv (N+1) r.1∧r.1.Lg=s.Lg∧r.1.Lu=s.Lu)
theorem tj{N:Nat}{s t:JG}{c:Lx}(h:Inv N t)(k:Keep s t):aaS N s (t,0,c):=⟨λ_=>⟨h,k⟩,λh=>absurd rfl h⟩
theorem AY{N:Nat}{s t:JG}{c:Lx}{k:Int}(hk:k≠0)(h:Inv (N+1) t)(h1:t.Lg=s.Lg)(h2:t.Lu=s.Lu):aaS N s (t,k,c):=⟨λh=>absurd h hk,λ_=>⟨h,h1,h2⟩⟩
theorem MJ.R5{E:SA}{N:Nat}{s:JG}(h:MJ E N s){a:LM}(ha:a∈s.Lv):a.Ls.length≤1000000:=by have:=(h.ak a ha).Lf.len;omega
theorem K0{N:Nat}{s:JG}(h:Inv N s)(hN:N≤1000000){n:LG}(hn:n∈s.Lu)(hup:n.Up=true)(hfree:∀y∈s.LH,y.LG≠n.Id){a:LM}(ha:a∈s.Lv)(hl:Mt a=true){x:Ask}(hx:NM s.Lg x)(hc:s.Kl.length<200)(hq:s.Seq<1048575)(first:Bool) :
  Gv (ls s n a x first) (aaS N s):=by
 have hsc:=h.sc;have hak:=h.ak a ha;unfold ls;rw[E_ hsc (h.R5 ha) hx.size.vb,K_];refine ad (P:=λ_=>True) ?_ λq _=>?_
 ·rw[AS,K_,mr,K_]
  repeat' (first | exact⟨_,rfl,trivial⟩ | refine ae (λ_=>?_) (λ_=>?_))
 refine ae (λ_=>aa (tj h (.refl s))) λ_=>?_;rw[Eb,K_];refine ae (λ_=>?_) λ_=>?_
 ·refine ad (P:=λt=>Inv N t∧Keep s t) ?_ λt ht=>aa (tj ht.1 ht.2);refine ae (λ_=>?_) λ_=>aa ⟨h,.refl s⟩
  rw[Js (by have:=hak.al;omega),K_]
  refine ad (P:=λt=>t=Pe s (uc a x.LD)) (bY (oi h.z _) rfl) ?_;rintro t rfl;exact aa (h.miss ha x.LD)
 ·rw[B_ hsc (h.R5 ha) n.Ll hx.size.vb,K_];refine ae (λ_=>aa (tj h (.refl s))) λ_=>?_;rw[Cp h.sb,K_,mr,K_];refine ae (λhf=>?_) λ_=>?_
  ·rw[Be h.z h.sq n (by have:=hak.al;omega) (λy hy=>by have:=(hak.ask y hy).count;omega) (by have:=hak.gr;omega) x,K_]
   exact aa (AY (by simp) (h.grant hn hup ha hl hx hf hc hq) rfl rfl)
  ·refine ad (P:=λ_=>True) ?_ λq1 _=>?_
   ·rw[Iq h.z,K_]
    repeat' (first | exact⟨_,rfl,trivial⟩ | refine ae (λ_=>?_) (λ_=>?_))
   ·refine ae (λ_=>?_) λ_=>aa (tj h (.refl s));rw[JQ h.z,K_]
    exact aa (AY (by simp) ((h.hold hfree ⟨n,hn,rfl,hup⟩).mono (by omega)) rfl rfl)
structure RI(N:Nat)(n:LG)(s t:JG):Prop where
 i:Inv N t
 k:Keep s t
def RQ(N:Nat)(n:LG)(s:JG)(r:(JG×Int×Lx) ⊕ (JG×JG×Lx)):Prop:=
 match r with
 | .inl q=>q.2.1≠0∧Inv (N+1) q.1∧q.1.Lg=s.Lg∧q.1.Lu=s.Lu
 | .inr p=>RI N n s p.1
theorem F6{N:Nat}(hN:N≤1000000){s:JG}{n:LG}(hn:n∈s.Lu)(hup:n.Up=true)(hfree:∀y∈s.LH,y.LG≠n.Id)(hc:s.Kl.length<200)(hq:s.Seq<1048575)(first:Bool){ids:List Int}{k:Nat}(hk:k<ids.length)
  {a0:LM} (ha0:a0∈s.Lv) (hid:a0.Id=ids[k]) (hl:Mt a0=true) {x2:LM×Bool} (hx2:x2.1.Mq.length≤1000∧∀x∈x2.1.Mq,NM s.Lg x) {t1:JG×JG×Lx} (ht:RI N n s t1.1) :
  Gv (loop (dC n first ids (t1.1,t1.2.1,t1.2.2,(k:Int)) x2) (t1.1,t1.2.1,t1.2.2,0)) (RQ N n s):=by
 refine az (λ(p:JG×JG×Lx) i=>(p.1,p.2.1,p.2.2,i)) x2.1.Mq.length (λ_ p=>RI N n s p.1) (step:=dC n first ids (t1.1,t1.2.1,t1.2.2,(k:Int)) x2) (by omega) ?_ ?_ (s:=t1) ht
 ·intro j hj p hp;obtain⟨b,hb,e1,e2,e3,e4⟩:=hp.k.ap a0 ha0;unfold dC;dsimp only;rw[ah hj,cond_true,aC hk,K_,La hk,K_,dJ hp.i.z,← hid,← e1,hp.i.M9 hb,K_,ai hj,K_]
  have hlb:Mt b=true:=by unfold Mt at hl ⊢;rw[e2];exact hl
  have adJ:NM p.1.Lg x2.1.Mq[j]:=by rw[hp.k.cf];exact hx2.2 _ (Nq hj)
  refine ad (K0 hp.i hN (by rw[hp.k.nd];exact hn) hup (by rw[hp.k.sl];exact hfree) hb hlb adJ (by rw[hp.k.cs];exact hc) (by rw[hp.k.sq];exact hq) first) ?_
  rintro⟨u,kd,c⟩ ⟨r0,r1⟩;dsimp only at r0 r1 ⊢;refine ae (λhz=>?_) λhz=>?_
  ·have hz:kd≠0:=by simpa using hz
   obtain⟨q1,q2,q3⟩:=r1 hz;exact aa (.inr ⟨_,rfl,hz,q1,q2.trans hp.k.cf,q3.trans hp.k.nd⟩)
  ·have hz:kd=0:=by simpa using hz
   obtain⟨q1,q2⟩:=r0 hz;exact aa (.inl ⟨(u,p.2.1,p.2.2),rfl,⟨q1,hp.k.trans q2⟩⟩)
 ·intro p hp;unfold dC;dsimp only;rw[am,cond_false];exact aa ⟨_,rfl,hp⟩
theorem FK{N:Nat}(hN:N≤1000000){s:JG}{n:LG}(hn:n∈s.Lu)(hup:n.Up=true)(hfree:∀y∈s.LH,y.LG≠n.Id)(hc:s.Kl.length<200)(hq:s.Seq<1048575)(first:Bool){leaves:List Str}{k:Nat}(hk:k<leaves.length)(hll:leaves[k].length≤1000000)
  {ids:List Int} (hil:ids.length≤100000) (Ob:∀i∈ids,∃a∈s.Lv,a.Id=i∧Mt a=true∧a.Ls=leaves[k]) {t:JG×JG×Lx} (ht:RI N n s t.1) :
  Gv (loop (dG n first leaves (t.1,t.2.1,t.2.2,(k:Int)) ids) (t.1,t.2.1,t.2.2,0)) (RQ N n s):=by
 refine az (λ(p:JG×JG×Lx) i=>(p.1,p.2.1,p.2.2,i)) ids.length (λ_ p=>RI N n s p.1) (step:=dG n first leaves (t.1,t.2.1,t.2.2,(k:Int)) ids) (by omega) ?_ ?_ (s:=t) ht
 ·intro j hj p hp;obtain⟨a0,ha0,hid,hl,hqu⟩:=Ob _ (Nq hj);obtain⟨b,hb,e1,e2,e3,e4⟩:=hp.k.ap a0 ha0;have hbk:=hp.i.ak b hb;unfold dG;dsimp only;rw[ah hj,cond_true]
  refine ad (P:=λr=>match r with | .inl p=>RI N n s p.1 | .inr q=>q.2.1≠0∧Inv (N+1) q.1∧q.1.Lg=s.Lg∧q.1.Lu=s.Lu) ?_ ?_
  ·rw[aC hj,K_,La hj,K_,dJ hp.i.z,← hid,← e1,hp.i.M9 hb,K_,aC hk,K_,La hk,K_,
    CJ hp.i.sc hll,K_]
   refine ae (λ_=>aa hp) λ_=>?_
   refine ad (F6 hN hn hup hfree hc hq first hj ha0 hid hl ⟨by have:=hbk.al;show b.Mq.length≤1000;omega,λx hx=>by rw[← hp.k.cf];exact hbk.ask x hx⟩ hp) ?_
   rintro(q | q) hr
   ·exact aa hr
   ·exact aa hr
  ·rintro(q | q) hr
   ·exact aa (.inl ⟨q,rfl,hr⟩)
   ·exact aa (.inr ⟨_,rfl,hr⟩)
 ·intro p hp;unfold dG;dsimp only;rw[am,cond_false];exact aa ⟨_,rfl,hp⟩
theorem AB{N:Nat}(hN:N≤1000000){s:JG}(h:Inv N s){n:LG}(hn:n∈s.Lu)(hup:n.Up=true)(hfree:∀y∈s.LH,y.LG≠n.Id)(hc:s.Kl.length<200)(hq:s.Seq<1048575)(first:Bool) :
  Gv (fF s n first) (aaS N s):=by
 unfold fF;rw[Fz h.sc,K_];have hll:=Dz h.sc n.Ll;refine ad (P:=RQ N n s) ?_ ?_
 ·refine az (λ(p:JG×JG×Lx) i=>(p.1,p.2.1,p.2.2,i)) (pu s n.Ll).length (λ_ p=>RI N n s p.1) (step:=fN n first (pu s n.Ll)) (by omega) ?_ ?_
   (s:=(s,(⟨⟨[],[]⟩,[],[],[],[],[],0,0,0⟩:JG),(⟨0,0,0,⟨0,0⟩,0,0,false,0⟩:Lx))) ⟨h,.refl s⟩
  ·intro j hj p hp;unfold fN;dsimp only;rw[ah hj,cond_true,aC hj,K_,La hj,K_,JK hp.i.z,K_]
   have hlen:((pu s n.Ll)[j]).length≤1000000:=by have:=(kC h.cf (BA h.sc n.Ll (Nq hj))).len;omega
   have hn':n∈p.1.Lu:=by rw[hp.k.nd];exact hn
   refine ad (FK hN (s:=p.1) hn' hup (by rw[hp.k.sl];exact hfree) (by rw[hp.k.cs];exact hc) (by rw[hp.k.sq];exact hq) first hj hlen (by have:=Il (s:=p.1) (pu s n.Ll)[j];have:=hp.i.al;omega) (λi hi=>Hh hi) (t:=p) ⟨hp.i,.refl _⟩) ?_
   rintro(q | q) hr
   ·exact aa (.inr ⟨_,rfl,hr.1,hr.2.1,hr.2.2.1.trans hp.k.cf,hr.2.2.2.trans hp.k.nd⟩)
   ·exact aa (.inl ⟨q,rfl,⟨hr.i,hp.k.trans hr.k⟩⟩)
  ·intro p hp;unfold fN;dsimp only;rw[am,cond_false];exact aa ⟨_,rfl,hp⟩
 ·rintro(q | q) hr
  ·exact aa (AY hr.1 hr.2.1 hr.2.2.1 hr.2.2.2)
  ·exact aa (tj hr.i hr.k)
end Go.Fx.D
