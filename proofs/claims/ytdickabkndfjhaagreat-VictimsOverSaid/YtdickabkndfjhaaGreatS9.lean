/-
  The reference manager: what holds of its state after every script. Conditions: none.
-/
import Derived.Test.YtdickabkndfjhaaGreatS8
namespace Go.Fx.D
open Go Go.Fx
set_option linter.unusedVariables false
set_option linter.unusedSimpArgs false
def akR(p:MW):Prop:=VB 1073741824 p.Need∧(0≤p.From∧p.From≤1000000)∧0≤p.Until∧p.Until≤1000000
def RB(v:Vec):Prop:=(1≤v.Mem∧v.Mem≤1073741824)∧1≤v.Lu∧v.Lu≤1073741824
theorem RB.vb{v:Vec}(h:RB v):VB 1073741824 v:=by unfold RB at h;unfold VB;omega
structure NI(c:Lf)(x:Ask):Prop where
 label:0≤x.Ll∧x.Ll<c.Lp.length
 size:RB x.LV
 count:1≤x.Mw∧x.Mw≤50
structure Pw(N:Nat)(c:Lf)(a:LD):Prop where
 st:1≤a.JF∧a.JF≤4
 user:0≤a.User∧a.User≤2
 Ld:Ox a.Lm
 leaf:a.JF=1∨a.JF=2→Nq c a.Lm=true
 R6:RB a.Lj
 al:a.Mr.length≤8
 ask:∀x∈a.Mr,NI c x
 gr:a.Mv.length≤N
 ki:a.Nr.length≤N
 to:a.Told.length≤N
 lo:a.N7.length≤N
 ap:a.Mr.Pairwise λx y=>x.LA<y.LA
 fst:a.JF=1→∀x∈a.Mr,x.Ll=0∧x.LV.Mem=a.Lj.Mem
structure adG(s:JF)(c:Lv):Prop where
 size:RB c.LV
 app:∃a∈s.Lr,a.Id=c.LD∧a.JF=2
 label:0≤c.Ll∧c.Ll<s.Lf.Lp.length
 id:0≤c.Id∧c.Id≤s.L9*1048576+s.Seq
 R6:c.Lj=true→c.Ll=0∧∀a∈s.Lr,a.Id=c.LD→c.LV.Mem=a.Lj.Mem
structure Sz where
 Ta:Int→Prop
 app:Int→Prop
def ZN:Sz:=⟨λ_=>False,λ_=>False⟩
def Rx(l:List Lv)(i:Int):List Lv:=l.filter λc=>c.LD == i&&c.Lj
structure Sd(E:Sz)(s:JF):Prop where
 Xv:bH s.Lf=some 0
 Ta:∀c∈s.Lc,∃n∈s.Ls,n.Id=c.LB∧n.Ll=c.Ll∧(n.Up=true∨E.Ta n.Id)
 slt:∀x∈s.LG,∃n∈s.Ls,n.Id=x.LB∧(n.Up=true∨E.Ta n.Id)
 Vr:∀c∈s.Lc,0≤c.ME∧c.ME≤imax s.Now 1
 fit:∀n∈s.Ls,(jd s n.Id).Mem≤n.Cap.Mem∧(jd s n.Id).Lu≤n.Cap.Lu
 one:∀a∈s.Lr,a.JF=2→E.app a.Id∨(Rx s.Lc a.Id).length=1
def GrS(ep sq:Int)(a:LD):Prop:=a.Mv.Pairwise (λx y=>x<y)∧∀g∈a.Mv,g≤ep*1048576+sq
structure MI(E:Sz)(N:Nat)(s:JF):Prop where
 cf:Nj s.Lf
 nl:s.Ls.length≤12
 ns:s.Ls.Pairwise λx y=>x.Id<y.Id
 nk:∀n∈s.Ls,VB 1073741824 n.Cap∧0≤n.Ll∧n.Ll<s.Lf.Lp.length
 al:s.Lr.length≤16
 Px:s.Lr.Pairwise λx y=>x.Id<y.Id
 ak:∀a∈s.Lr,Pw N s.Lf a
 cl:s.Lc.length≤200
 cs:s.Lc.Pairwise λx y=>x.Id<y.Id
 ck:∀c∈s.Lc,adG s c
 ss:s.LG.Pairwise λx y=>x.LB<y.LB
 sk:∀x∈s.LG,∃n∈s.Ls,n.Id=x.LB
 pl:s.LU.length≤12
 ps:s.LU.Pairwise λx y=>x.Id<y.Id
 pk:∀p∈s.LU,akR p
 now:0≤s.Now∧s.Now≤1000000000
 ep:0≤s.L9∧s.L9≤1048576
 sq:0≤s.Seq∧s.Seq≤1048575
 en:s.L9≤(N:Int)∧s.Now≤(N:Int)∧∀a∈s.Lr,GrS s.L9 s.Seq a
 sd:Sd E s
abbrev Inv(N:Nat)(s:JF):Prop:=MI ZN N s
theorem Pw.mono{N M:Nat}{c:Lf}{a:LD}(h:Pw N c a)(hm:N≤M):Pw M c a:=
 ⟨h.st,h.user,h.Ld,h.leaf,h.R6,h.al,h.ask,Rb h.gr hm,Rb h.ki hm,Rb h.to hm,Rb h.lo hm,h.ap,h.fst⟩
theorem MI.mono{E:Sz}{N M:Nat}{s:JF}(h:MI E N s)(hm:N≤M):MI E M s:=
 ⟨h.cf,h.nl,h.ns,h.nk,h.al,h.Px,λa ha=>(h.ak a ha).mono hm,h.cl,h.cs,h.ck,h.ss,h.sk,h.pl,h.ps,h.pk,h.now,h.ep,h.sq,⟨by have:=h.en.1;omega,by have:=h.en.2.1;omega,h.en.2.2⟩,h.sd⟩
theorem MI.relax{E E':Sz}{N:Nat}{s:JF}(h:MI E N s)(h1:∀c∈s.Lc,E.Ta c.LB→E'.Ta c.LB)(h2:∀x∈s.LG,E.Ta x.LB→E'.Ta x.LB)(h3:∀a∈s.Lr,a.JF=2→E.app a.Id→E'.app a.Id):MI E' N s:=by
 refine⟨h.cf,h.nl,h.ns,h.nk,h.al,h.Px,h.ak,h.cl,h.cs,h.ck,h.ss,h.sk,h.pl,h.ps,h.pk,h.now,h.ep,h.sq,h.en,h.sd.Xv,λc hc=>?_,λx hx=>?_,h.sd.Vr,h.sd.fit,λa ha e=>?_⟩
 ·obtain⟨n,hn,e1,e2,e3⟩:=h.sd.Ta c hc
  exact⟨n,hn,e1,e2,e3.imp id λe=>by have:=h1 c hc (by rw[← e1];exact e);rw[e1];exact this⟩
 ·obtain⟨n,hn,e1,e3⟩:=h.sd.slt x hx
  exact⟨n,hn,e1,e3.imp id λe=>by have:=h2 x hx (by rw[← e1];exact e);rw[e1];exact this⟩
 ·exact(h.sd.one a ha e).imp (h3 a ha e) id
theorem v7{α β : Type}(f:α→Int)(g:β→Int):∀(l:List α)(m:List β),l.Pairwise (λx y=>f x<f y)→m.Pairwise (λx y=>g x<g y)→(∀x∈l,∃y∈m,g y=f x)→l.length≤m.length
 | [],m,_,_,_=>by simp
 | x::l,[],_,_,h=>by obtain⟨y,hy,_⟩:=h x (by simp);cases hy
 | x::l,y::m,h1,h2,h3=>by
  have hx:=(SV.1 h1).1;have hy:=(SV.1 h2).1
  have:=v7 f g l m (SV.1 h1).2 (SV.1 h2).2 (λz hz=>by
   obtain⟨w,hw,e⟩:=h3 z (by simp[hz])
   rcases Nz.1 hw with rfl | hw
   ·obtain⟨w',hw',e'⟩:=h3 x (by simp)
    rcases Nz.1 hw' with rfl | hw'
    ·have:=hx z hz;omega
    ·have:=hy w' hw';have:=hx z hz;omega
   ·exact⟨w,hw,e⟩)
  simp;omega
theorem MI.sl{E:Sz}{N:Nat}{s:JF}(h:MI E N s):s.LG.length≤12:=
 Rb (v7 (·.LB) (·.Id) _ _ h.ss h.ns h.sk) h.nl
theorem MI.sb{E:Sz}{N:Nat}{s:JF}(h:MI E N s):SB s:=by
 have h1:=h.nl;have h2:=h.al;have h3:=h.cl;have h4:=h.sl;have h5:=h.pl
 refine⟨⟨by omega,by omega,by omega,by omega,by omega⟩,h.cf.small,λn hn=>(h.nk n hn).1,λc hc=>(h.ck c hc).size.vb,λp hp=>(h.pk p hp).1,λa ha=>by have:=(h.ak a ha).Ld.len;omega,λa ha=>by have:=(h.ak a ha).al;omega,λa ha x hx=>?_⟩
 have:=(h.ak a ha).ask x hx;have hc:=this.count
 exact⟨this.size.vb,by omega,by omega⟩
theorem MI.z{E:Sz}{N:Nat}{s:JF}(h:MI E N s):M_ s:=h.sb.z
theorem MI.sc{E:Sz}{N:Nat}{s:JF}(h:MI E N s):SC s:=⟨h.sb,h.cf,by have:=h.nl;omega⟩
theorem MI.q{E:Sz}{N:Nat}{s:JF}(h:MI E N s){a:LD}(ha:a∈s.Lr):a.Lm.length≤1000000:=h.sb.aq a ha
theorem eL{α : Type}{id:α→Int}:∀{l:List α},l.Pairwise (λx y=>id x<id y)→∀{a b:α},a∈l→b∈l→id a=id b→a=b
 | [],_,_,_,ha,_,_=>nomatch ha
 | x::l,h,a,b,ha0,hb0,e=>by
  have h1:=(SV.1 h).1;rcases Nz.1 ha0 with ha | ha
  ·subst ha;rcases Nz.1 hb0 with hb | hb
   ·exact hb.symm
   ·have:=h1 b hb;omega
  ·rcases Nz.1 hb0 with hb | hb
   ·subst hb;have:=h1 a ha;omega
   ·exact eL (SV.1 h).2 ha hb e
theorem MI.aai{E:Sz}{N:Nat}{s:JF}(h:MI E N s){a:LD}(hb:∃b∈s.Lr,b.Id=a.Id∧(a.JF=2→b.JF=2∧b.Lj.Mem=a.Lj.Mem))(ha:Pw N s.Lf a)(hg:GrS s.L9 s.Seq a)(hc:a.JF=2∨∀c∈s.Lc,c.LD≠a.Id):MI E N (NA s a):=by
 refine⟨h.cf,h.nl,h.ns,h.nk,?_,lS h.Px,?_,h.cl,h.cs,?_,h.ss,h.sk,h.pl,h.ps,h.pk,h.now,h.ep,h.sq,⟨h.en.1,h.en.2.1,λx hx=>((aJ h.Px).1 hx).elim (λe=>e▸hg) λhx=>h.en.2.2 x hx.1⟩,h.sd.Xv,h.sd.Ta,h.sd.slt,h.sd.Vr,h.sd.fit,λx hx e=>?_⟩
 ·show(NR (·.Id) s.Lr a).length≤16;rw[mq.2 (hb.imp λb hb=>⟨hb.1,hb.2.1⟩) h.Px];exact h.al
 ·intro x hx;rcases(aJ h.Px).1 hx with rfl | ⟨hx,_⟩
  ·exact ha
  ·exact h.ak x hx
 ·intro c hc';have hck:=h.ck c hc';refine⟨hck.size,?_,hck.label,hck.id,λem=>⟨(hck.R6 em).1,λd hd e'=>?_⟩⟩
  rotate_left
  ·rcases(aJ h.Px).1 hd with rfl | ⟨hd,_⟩
   ·rcases hc with hc | hc
    ·obtain⟨b,hb,e1,e2⟩:=hb;rw[← (e2 hc).2]
     exact(hck.R6 em).2 b hb (by omega)
    ·exact absurd e'.symm (hc c hc')
   ·exact(hck.R6 em).2 d hd e'
  obtain⟨b,hb,e1,e2⟩:=hck.app;by_cases he:b.Id=a.Id
  ·rcases hc with hc | hc
   ·exact⟨a,(aJ h.Px).2 (.inl rfl),by omega,hc⟩
   ·exact absurd (by omega) (hc c hc')
  ·exact⟨b,(aJ h.Px).2 (.inr ⟨hb,he⟩),e1,e2⟩
 ·rcases(aJ h.Px).1 hx with rfl | ⟨hx,_⟩
  ·obtain⟨b,hb,e1,e2⟩:=hb;have:=h.sd.one b hb (e2 e).1;rw[e1]at this;exact this
  ·exact h.sd.one x hx e
theorem Hs{l m:List Vec}(h:l.Sublist m)(hm:∀v∈m,0≤v.Mem∧0≤v.Lu):(Oh l).Mem≤(Oh m).Mem∧(Oh l).Lu≤(Oh m).Lu:=by
 induction h with
 | slnil=>exact⟨Uj _,Uj _⟩
 | cons v h ih=>have h1:=ih λw hw=>hm w (Uh _ hw);have h2:=hm v ZT;rw[mo];unfold MB;dsimp only;omega
 | cons_cons v h ih=>have h1:=ih λw hw=>hm w (Uh _ hw);rw[mo,mo];unfold MB;dsimp only;omega
theorem Ea{s t:JF}(h:t.Lc.Sublist s.Lc)(hs:∀c∈s.Lc,RB c.LV)(i:Int):(jd t i).Mem≤(jd s i).Mem∧(jd t i).Lu≤(jd s i).Lu:=by refine Hs ((h.filter _).map _) λv hv=>?_;obtain⟨c,hc,rfl⟩:=Ra.1 hv;have:=hs c (PL.1 hc).1;unfold RB at this;omega
theorem MI.less{E:Sz}{N:Nat}{s:JF}(h:MI E N s){cs:List Lv}{sl:List Nv}(h1:cs.Sublist s.Lc)(h2:sl.Sublist s.LG)(hm:∀a∈s.Lr,a.JF=2→E.app a.Id∨Rx cs a.Id=Rx s.Lc a.Id):MI E N ⟨s.Lf,s.Ls,s.Lr,cs,sl,s.LU,s.Now,s.L9,s.Seq⟩:=by
 refine⟨h.cf,h.nl,h.ns,h.nk,h.al,h.Px,h.ak,Rb h1.length_le h.cl,h.cs.sublist h1,λc hc=>?_,h.ss.sublist h2,λx hx=>h.sk x (h2.subset hx),h.pl,h.ps,h.pk,h.now,h.ep,h.sq,h.en,
  h.sd.Xv,λc hc=>h.sd.Ta c (h1.subset hc),λx hx=>h.sd.slt x (h2.subset hx),λc hc=>h.sd.Vr c (h1.subset hc),λn hn=>?_,λa ha e=>?_⟩
 ·have:=h.ck c (h1.subset hc);exact⟨this.size,this.app,this.label,this.id,this.R6⟩
 ·have h3:=Ea (s:=s) (t:=⟨s.Lf,s.Ls,s.Lr,cs,sl,s.LU,s.Now,s.L9,s.Seq⟩) h1 (λc hc=>(h.ck c hc).size) n.Id;have h4:=h.sd.fit n hn;omega
 ·rcases hm a ha e with e1 | e1
  ·exact .inl e1
  ·exact(h.sd.one a ha e).imp id λe2=>by rw[← e1]at e2;exact e2
theorem MI.away{E:Sz}{N:Nat}{s:JF}(h:MI E N s)(i:Int)(hm:∀c∈s.Lc,c.Id=i→c.Lj=false):MI E N (RN s i):=h.less Wh (List.Sublist.refl _) λa _ _=>.inr (by
 unfold Rx;rw[QgQ];refine QfB λc hc=>?_;by_cases e:c.Id=i
 ·rw[hm c hc e,Bool.and_false,Bool.false_and]
 ·rw[show(c.Id != i)=true from bne_iff_ne.2 e,QgH])
def exA(E:Sz)(i:Int):Sz:=⟨E.Ta,λj=>E.app j∨j=i⟩
theorem MI.anS{E:Sz}{N:Nat}{s:JF}(h:MI E N s)(i:Int):MI (exA E i) N (P9 s i):=
 MI.less (E:=exA E i) (h.relax (λ_ _ e=>e) (λ_ _ e=>e) λ_ _ _ e=>.inl e) Wh Wh λa _ _=>by
  by_cases e:a.Id=i
  ·exact .inl (.inr e)
  ·refine .inr ?_;unfold Rx;rw[QgQ];refine QfB λc hc=>?_;by_cases e2:c.LD=a.Id
   ·rw[show(c.LD == i)=false from beq_eq_false_iff_ne.2 (by omega),Vn,QgH]
   ·rw[show(c.LD == a.Id)=false from beq_eq_false_iff_ne.2 e2];rfl
theorem MI.aah{E:Sz}{N:Nat}{s:JF}(h:MI E N s){n:LB}(hb:(∃b∈s.Ls,b.Id=n.Id)∨s.Ls.length<12)(hn:VB 1073741824 n.Cap∧0≤n.Ll∧n.Ll<s.Lf.Lp.length)
  (hu:((∀c∈s.Lc,c.LB≠n.Id)∧∀x∈s.LG,x.LB≠n.Id)∨∃b∈s.Ls,b.Id=n.Id∧b.Ll=n.Ll∧b.Cap=n.Cap∧(b.Up=true→n.Up=true∨E.Ta n.Id)):MI E N (Y8 s n):=by
 refine⟨h.cf,?_,lS h.ns,?_,h.al,h.Px,h.ak,h.cl,h.cs,λc hc=>?_,h.ss,?_,h.pl,h.ps,h.pk,h.now,h.ep,h.sq,h.en,h.sd.Xv,λc hc=>?_,λx hx=>?_,h.sd.Vr,λm hm=>?_,h.sd.one⟩
 ·show(NR (·.Id) s.Ls n).length≤12;rcases hb with hb | hb
  ·rw[mq.2 hb h.ns];exact h.nl
  ·have:=(mq (id:=λx:LB=>x.Id) (l:=s.Ls) (a:=n)).1;omega
 ·intro x hx;rcases(aJ h.ns).1 hx with rfl | ⟨hx,_⟩
  ·exact hn
  ·exact h.nk x hx
 ·have:=h.ck c hc;exact⟨this.size,this.app,this.label,this.id,this.R6⟩
 ·intro x hx;obtain⟨b,hb,e⟩:=h.sk x hx;by_cases he:b.Id=n.Id
  ·exact⟨n,(aJ h.ns).2 (.inl rfl),by omega⟩
  ·exact⟨b,(aJ h.ns).2 (.inr ⟨hb,he⟩),e⟩
 ·obtain⟨b,hb,e1,e2,e3⟩:=h.sd.Ta c hc;by_cases he:b.Id=n.Id
  ·rcases hu with hu | ⟨b',hb',f1,f2,f3,f4⟩
   ·exact absurd (by omega) (hu.1 c hc)
   ·have:b=b':=eL (id:=λx:LB=>x.Id) h.ns hb hb' (by omega)
    subst this
    exact⟨n,(aJ h.ns).2 (.inl rfl),by omega,by omega,e3.elim f4 λe=>.inr (by rw[← he];exact e)⟩
  ·exact⟨b,(aJ h.ns).2 (.inr ⟨hb,he⟩),e1,e2,e3⟩
 ·obtain⟨b,hb,e1,e3⟩:=h.sd.slt x hx;by_cases he:b.Id=n.Id
  ·rcases hu with hu | ⟨b',hb',f1,f2,f3,f4⟩
   ·exact absurd (by omega) (hu.2 x hx)
   ·have:b=b':=eL (id:=λx:LB=>x.Id) h.ns hb hb' (by omega)
    subst this
    exact⟨n,(aJ h.ns).2 (.inl rfl),by omega,e3.elim f4 λe=>.inr (by rw[← he];exact e)⟩
  ·exact⟨b,(aJ h.ns).2 (.inr ⟨hb,he⟩),e1,e3⟩
 ·rcases(aJ h.ns).1 hm with rfl | ⟨hm,_⟩
  ·rcases hu with hu | ⟨b,hb,f1,f2,f3,f4⟩
   ·have e:jd (Y8 s m) m.Id=⟨0,0⟩:=by
     show Oh ((s.Lc.filter λc=>c.LB == m.Id).map (·.LV))=_
     rw[QeA.2 λc hc=>by simpa using hu.1 c hc];rfl
    rw[e];have:=hn.1;unfold VB at this;dsimp only;omega
   ·have:=h.sd.fit b hb;rw[f1,f3]at this;exact this
  ·exact h.sd.fit m hm
def noS:Nv:=⟨0,0,0⟩
def Ap(s:JF)(i:Int):Option Nv:=s.LG.find? λx=>x.LB == i
theorem Jo{s:JF}(h:M_ s)(i:Int):jS s i=some ((Ap s i).elim (noS,false) λx=>(x,true)):=by
 unfold jS
 have e:=eJ (λi=>(noS,i)) s.LG (λq=>q.LB == i) (λq=>.inl (q,true)) (.inr noS) (step:=dC s i) (by have:=h.l;omega) ?_ ?_ ?_
 ·unfold noS at e;rw[e];unfold Ap noS
  cases s.LG.find? λq=>q.LB == i<;>rfl
 ·intro k hk hp;unfold dC;rw[ah hk,ai hk];simp only[cond_true,K8,hp,cond_false]
 ·intro k hk hp;unfold dC;rw[ah hk,ai hk];simp only[cond_true,K8,hp]
 ·unfold dC;rw[ar];rfl
def Pn(s:JF)(i:Int):JF:=⟨s.Lf,s.Ls,s.Lr,s.Lc,s.LG.filter λx=>x.LB != i,s.LU,s.Now,s.L9,s.Seq⟩
theorem qO{s:JF}(h:M_ s)(i:Int):cJ s i=some (Pn s i):=by
 unfold cJ;have hc:=h.l
 have e:=bU (λ(l:List Nv) i=>(l,i)) s.LG (λc=>c.LB != i) id (step:=eY s i) (by omega) ?_ ?_
 ·rw[e,Z0];rfl
 ·intro k hk l hl;unfold eY;rw[ah hk,ai hk];simp only[cond_true,K8]
  cases hp:(s.LG[k].LB != i)<;>simp only[cond_true,cond_false,K8,if_true]
  ·rfl
  ·rw[aj (by simp;omega) (by omega)];rfl
 ·intro l;unfold eY;rw[ar];rfl
theorem MI.noSlot{E:Sz}{N:Nat}{s:JF}(h:MI E N s)(i:Int):MI E N (Pn s i):=h.less (List.Sublist.refl _) Wh λ_ _ _=>.inr rfl
def FQ(s:JF)(app prio:Int):Bool:=(s.LG.find? λx=>x.LD == app&&x.LA == prio).isSome
theorem GO{s:JF}(h:M_ s)(app prio:Int):jw s app prio=some (FQ s app prio):=by
 unfold jw
 have st:∀k (hk:k<s.LG.length),di s app prio (k:Int)=some (bif s.LG[k].LD == app&&s.LG[k].LA == prio then .inr (.inl true)else .inl (Lx ((k:Int)+1))):=by
  intro k hk;unfold di;rw[ah hk,ai hk];simp only[cond_true,K8]
  cases s.LG[k].LD == app<;>cases s.LG[k].LA == prio<;>rfl
 have e:=eJ (λi=>i) s.LG (λx=>x.LD == app&&x.LA == prio) (λq=>(.inl true:Bool ⊕ Unit)) (.inr ()) (step:=di s app prio) (by have:=h.l;omega) ?_ ?_ ?_
 ·rw[e];unfold FQ
  cases s.LG.find? λx=>x.LD == app&&x.LA == prio<;>rfl
 ·intro k hk hp;rw[st k hk,hp];rfl
 ·intro k hk hp;rw[st k hk,hp];rfl
 ·unfold di;rw[ar];rfl
def Ph{α : Type}(id:α→Int)(l:List α)(a:α):List α:=(l.takeWhile λx=>decide (id x<id a))++a::l.dropWhile λx=>decide (id x<id a)
theorem AX{α : Type}{id:α→Int}{l:List α}{a:α}(h:∀x∈l,id x≠id a):Ph id l a=NR id l a:=by
 unfold Ph NR;have:∀x∈l.dropWhile λx=>decide (id x<id a),id x≠id a:=λx hx=>h x ((List.dropWhile_sublist _).subset hx)
 cases hd:l.dropWhile λx=>decide (id x<id a)with
 | nil=>rfl
 | cons b y=>
  rw[hd]at this;dsimp only
  rw[if_neg (this b (by simp))]
theorem Cj{α : Type}{id:α→Int}{b:Nat}(hb:b≤1000){l:List α}(hn:l.length≤1000000){a:α}{k1:Int}(hk:k1=((l.takeWhile λx=>decide (id x<id a)).length:Int)){β : Type}(f:List α→Option β) :
  ((slc l 0 k1).bind λx=>(app b [] x).bind λl1=>(app b l1 [a]).bind λl2=>(slc l k1 (l.length:Int)).bind λl3=>(app b l2 l3).bind f)=f (Ph id l a):=by
 have hle:=mg (λx=>decide (id x<id a)) l;have ht:=nX (λx=>decide (id x<id a)) l;subst hk;unfold Ph;generalize hA:l.takeWhile (λx=>decide (id x<id a))=A at hle ht ⊢
 have s1:slc l 0 (A.length:Int)=some A:=by
  unfold slc
  rw[if_pos ⟨by omega,by omega,by omega⟩,Tz,ht.1];rfl
 have s2:slc l (A.length:Int) (l.length:Int)=some (l.drop A.length):=by
  unfold slc
  rw[if_pos ⟨by omega,by omega,by omega⟩,Tz,Tz,Sq]
 rw[s1,K8,aj (by simp;omega) hb,K8,PE,aj (by simp;omega) hb,K8,s2,K8,aj (by simp;omega) hb,K8,ht.2]
 simp
def abt(s:JF)(x:Nv):JF:=⟨s.Lf,s.Ls,s.Lr,s.Lc,Ph (·.LB) s.LG x,s.LU,s.Now,s.L9,s.Seq⟩
theorem JX{s:JF}(h:M_ s)(x:Nv):km s x=some (abt s x):=by
 unfold km;have hn:=h.l
 have e:=jT s.LG (λy=>decide (y.LB<x.LB)) (step:=gF s x) (by omega) ?_ ?_
 ·rw[e,K8]
  exact Cj (id:=λx:Nv=>x.LB) (by omega) (by omega) rfl (λl4=>some (⟨s.Lf,s.Ls,s.Lr,s.Lc,l4,s.LU,s.Now,s.L9,s.Seq⟩:JF))
 ·intro k hk;unfold gF;rw[ah hk,ai hk];simp only[cond_true,K8]
  cases decide (s.LG[k].LB<x.LB)<;>rfl
 ·unfold gF;rw[ar];rfl
theorem MI.hold{E:Sz}{N:Nat}{s:JF}(h:MI E N s){x:Nv}(h1:∀y∈s.LG,y.LB≠x.LB)(h2:∃n∈s.Ls,n.Id=x.LB∧n.Up=true):MI E N (abt s x):=by
 have e:Ph (·.LB) s.LG x=NR (·.LB) s.LG x:=AX h1;refine⟨h.cf,h.nl,h.ns,h.nk,h.al,h.Px,h.ak,h.cl,h.cs,λc hc=>?_,?_,?_,h.pl,h.ps,h.pk,h.now,h.ep,h.sq,h.en,h.sd.Xv,h.sd.Ta,?_,h.sd.Vr,h.sd.fit,h.sd.one⟩
 ·have:=h.ck c hc;exact⟨this.size,this.app,this.label,this.id,this.R6⟩
 ·show(Ph (·.LB) s.LG x).Pairwise _;rw[e];exact lS h.ss
 ·intro y hy;have hy:y∈Ph (·.LB) s.LG x:=hy;rw[e]at hy;rcases(aJ h.ss).1 hy with rfl | ⟨hy,_⟩
  ·obtain⟨n,hn,e,_⟩:=h2;exact⟨n,hn,e⟩
  ·exact h.sk y hy
 ·intro y hy;have hy:y∈Ph (·.LB) s.LG x:=hy;rw[e]at hy;rcases(aJ h.ss).1 hy with rfl | ⟨hy,_⟩
  ·obtain⟨n,hn,e,hu⟩:=h2;exact⟨n,hn,e,.inl hu⟩
  ·exact h.sd.slt y hy
def Yn(s:JF):Int:=Lx ((Rw .i64 s.L9 20)+(Lx (s.Seq+1)))
theorem aiv{x:Int}(h0:0≤x)(h1:x≤1048576):Rw .i64 x 20=x*1048576:=by
 unfold Rw
 have:(2:Int) ^ min (20:Int).toNat IntKind.i64.bits=1048576:=by decide
 rw[this]
 exact am (by omega) (by omega)
theorem Ky{s:JF}(h1:0≤s.L9∧s.L9≤1048576)(h2:0≤s.Seq∧s.Seq≤1048575):Yn s=s.L9*1048576+s.Seq+1:=by
 unfold Yn
 rw[aiv h1.1 h1.2,am (x:=s.Seq+1) (by omega) (by omega),am (by omega) (by omega)]
 omega
def Oa(s:JF)(n:LB)(a:LD)(x:Ask):Lv:=⟨Yn s,a.Id,n.Id,x.LV,x.LA,n.Ll,a.JF == 1,0⟩
def R_(s:JF)(a:LD)(x:Ask):LD:=
 if a.JF=1 then⟨a.Id,2,a.Lm,a.User,a.LA,a.Lj,[],s.Now,0,a.Mv,a.Nr,a.Told,a.N7⟩
 else⟨a.Id,a.JF,a.Lm,a.User,a.LA,a.Lj,Sk a.Mr x.LA,a.NZ,a.Nf,a.Mv++[Yn s],a.Nr,a.Told,a.N7⟩
def sL(s:JF)(n:LB)(a:LD)(x:Ask):JF:=
 NA ⟨s.Lf,s.Ls,s.Lr,Ph (·.Id) s.Lc (Oa s n a x),s.LG,s.LU,s.Now,s.L9,s.Seq+1⟩ (R_ s a x)
theorem Bc{s:JF}(h:M_ s)(hs:0≤s.Seq∧s.Seq≤1048575)(n:LB){a:LD}(h1:a.Mr.length≤100)(h2:∀x∈a.Mr,0≤x.Mw∧x.Mw≤1000000)(h3:a.Mv.length≤10000000)(x:Ask) :
  e_ s n a x=some (sL s n a x,Oa s n a x):=by
 unfold e_
 obtain⟨r,er,hr⟩:=I8 (l:=a.Mr) (by omega) h2 x.LA
 rw[er,K8];have hn:=h.c
 have e1:(bif a.JF == 1 then some (⟨a.Id,2,a.Lm,a.User,a.LA,⟨a.Lj.Mem,a.Lj.Lu⟩,[],s.Now,0,a.Mv,a.Nr,a.Told,a.N7⟩:LD)
  else(app 8 [] a.Mv).bind λl=>(app 8 l [Lx ((Rw .i64 s.L9 20)+(Lx (s.Seq+1)))]).bind λl1=>
   some (⟨a.Id,a.JF,a.Lm,a.User,a.LA,⟨a.Lj.Mem,a.Lj.Lu⟩,r.1,a.NZ,a.Nf,l1,a.Nr,a.Told,a.N7⟩:LD))=some (R_ s a x):=by
  unfold R_;by_cases ha:a.JF=1
  ·rw[if_pos ha,show(a.JF == 1)=true by simpa using ha];rfl
  ·rw[if_neg ha,show(a.JF == 1)=false by simpa using ha,cond_false,aj (by simp;omega) (by omega),K8,aj (by simp;omega) (by omega),K8,hr]
   rfl
 rw[e1,K8]
 have e:=jT s.Lc (λy=>decide (y.Id<(Oa s n a x).Id)) (step:=ft s) (by omega) ?_ ?_
 ·rw[e,K8]
  refine(Cj (id:=λx:Lv=>x.Id) (a:=Oa s n a x) (b:=72) (by omega) (by omega) rfl (λl6=>(aO (⟨⟨s.Lf.Lp,s.Lf.Lg⟩,s.Ls,s.Lr,l6,s.LG,s.LU,s.Now,s.L9,Lx (s.Seq+1)⟩:JF) (R_ s a x)).bind λx3=>some (x3,Oa s n a x))).trans ?_
  rw[am (x:=s.Seq+1) (by omega) (by omega)]
  rw[AG (by exact h.a),K8]
  rfl
 ·intro k hk;unfold ft;rw[ah hk,ai hk];simp only[cond_true,K8]
  show(bif decide (s.Lc[k].Id<Yn s)then _ else _)=some (if decide (s.Lc[k].Id<Yn s)=true then _ else _)
  cases decide (s.Lc[k].Id<Yn s)<;>rfl
 ·unfold ft;rw[ar];rfl
end Go.Fx.D
