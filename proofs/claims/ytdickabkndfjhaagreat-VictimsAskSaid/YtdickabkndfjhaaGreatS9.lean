/-
  The reference manager: what holds of its state after every script. Conditions: none.
-/
import Derived.Test.YtdickabkndfjhaaGreatS8
namespace Go.Fx.D
open Go Go.Fx
set_option linter.unusedVariables false
set_option linter.unusedSimpArgs false
def ak7(p:MV):Prop:=VB 1073741824 p.Need∧(0≤p.From∧p.From≤1000000)∧0≤p.Until∧p.Until≤1000000
def RJ(v:Vec):Prop:=(1≤v.Mem∧v.Mem≤1073741824)∧1≤v.LA∧v.LA≤1073741824
theorem RJ.vb{v:Vec}(h:RJ v):VB 1073741824 v:=by unfold RJ at h;unfold VB;omega
structure NM(c:Lg)(x:Ask):Prop where
 label:0≤x.Ll∧x.Ll<c.Lm.length
 size:RJ x.LY
 count:1≤x.ME∧x.ME≤50
structure PD(N:Nat)(c:Lg)(a:LM):Prop where
 st:1≤a.JG∧a.JG≤4
 user:0≤a.User∧a.User≤2
 Lf:OA a.Ls
 leaf:a.JG=1∨a.JG=2→Nu c a.Ls=true
 X9:RJ a.Lp
 al:a.Mq.length≤8
 ask:∀x∈a.Mq,NM c x
 gr:a.MC.length≤N
 ki:a.Np.length≤N
 to:a.Told.length≤N
 lo:a.NW.length≤N
 ap:a.Mq.Pairwise λx y=>x.LD<y.LD
structure adZ(s:JG)(c:Lx):Prop where
 size:RJ c.LY
 app:∃a∈s.Lv,a.Id=c.LM∧a.JG=2
 label:0≤c.Ll∧c.Ll<s.Lg.Lm.length
 id:0≤c.Id∧c.Id≤s.L8*1048576+s.Seq
structure SA where
 S9:Int→Prop
 app:Int→Prop
def Z9:SA:=⟨λ_=>False,λ_=>False⟩
def OP(l:List Lx)(i:Int):List Lx:=l.filter λc=>c.LM == i&&c.Lp
structure Sd(E:SA)(s:JG):Prop where
 Xa:bw s.Lg=some 0
 S9:∀c∈s.Kl,∃n∈s.Lu,n.Id=c.LG∧n.Ll=c.Ll∧(n.Up=true∨E.S9 n.Id)
 slt:∀x∈s.LH,∃n∈s.Lu,n.Id=x.LG∧(n.Up=true∨E.S9 n.Id)
 Vq:∀c∈s.Kl,0≤c.Mw∧c.Mw≤imax s.Now 1
 fit:∀n∈s.Lu,(jD s n.Id).Mem≤n.Cap.Mem∧(jD s n.Id).LA≤n.Cap.LA
 one:∀a∈s.Lv,a.JG=2→E.app a.Id∨(OP s.Kl a.Id).length=1
def GrS(ep sq:Int)(a:LM):Prop:=a.MC.Pairwise (λx y=>x<y)∧∀g∈a.MC,g≤ep*1048576+sq
structure MJ(E:SA)(N:Nat)(s:JG):Prop where
 cf:Nj s.Lg
 nl:s.Lu.length≤12
 ns:s.Lu.Pairwise λx y=>x.Id<y.Id
 nk:∀n∈s.Lu,VB 1073741824 n.Cap∧0≤n.Ll∧n.Ll<s.Lg.Lm.length
 al:s.Lv.length≤16
 Rb:s.Lv.Pairwise λx y=>x.Id<y.Id
 ak:∀a∈s.Lv,PD N s.Lg a
 cl:s.Kl.length≤200
 cs:s.Kl.Pairwise λx y=>x.Id<y.Id
 ck:∀c∈s.Kl,adZ s c
 ss:s.LH.Pairwise λx y=>x.LG<y.LG
 sk:∀x∈s.LH,∃n∈s.Lu,n.Id=x.LG
 pl:s.LJ.length≤12
 ps:s.LJ.Pairwise λx y=>x.Id<y.Id
 pk:∀p∈s.LJ,ak7 p
 now:0≤s.Now∧s.Now≤1000000000
 ep:0≤s.L8∧s.L8≤1048576
 sq:0≤s.Seq∧s.Seq≤1048575
 en:s.L8≤(N:Int)∧s.Now≤(N:Int)∧∀a∈s.Lv,GrS s.L8 s.Seq a
 sd:Sd E s
abbrev Inv(N:Nat)(s:JG):Prop:=MJ Z9 N s
theorem PD.mono{N M:Nat}{c:Lg}{a:LM}(h:PD N c a)(hm:N≤M):PD M c a:=
 ⟨h.st,h.user,h.Lf,h.leaf,h.X9,h.al,h.ask,P6 h.gr hm,P6 h.ki hm,P6 h.to hm,P6 h.lo hm,h.ap⟩
theorem MJ.mono{E:SA}{N M:Nat}{s:JG}(h:MJ E N s)(hm:N≤M):MJ E M s:=
 ⟨h.cf,h.nl,h.ns,h.nk,h.al,h.Rb,λa ha=>(h.ak a ha).mono hm,h.cl,h.cs,h.ck,h.ss,h.sk,h.pl,h.ps,h.pk,h.now,h.ep,h.sq,⟨by have:=h.en.1;omega,by have:=h.en.2.1;omega,h.en.2.2⟩,h.sd⟩
theorem MJ.relax{E E':SA}{N:Nat}{s:JG}(h:MJ E N s)(h1:∀c∈s.Kl,E.S9 c.LG→E'.S9 c.LG)(h2:∀x∈s.LH,E.S9 x.LG→E'.S9 x.LG)(h3:∀a∈s.Lv,a.JG=2→E.app a.Id→E'.app a.Id):MJ E' N s:=by
 refine⟨h.cf,h.nl,h.ns,h.nk,h.al,h.Rb,h.ak,h.cl,h.cs,h.ck,h.ss,h.sk,h.pl,h.ps,h.pk,h.now,h.ep,h.sq,h.en,h.sd.Xa,λc hc=>?_,λx hx=>?_,h.sd.Vq,h.sd.fit,λa ha e=>?_⟩
 ·obtain⟨n,hn,e1,e2,e3⟩:=h.sd.S9 c hc
  exact⟨n,hn,e1,e2,e3.imp id λe=>by have:=h1 c hc (by rw[← e1];exact e);rw[e1];exact this⟩
 ·obtain⟨n,hn,e1,e3⟩:=h.sd.slt x hx
  exact⟨n,hn,e1,e3.imp id λe=>by have:=h2 x hx (by rw[← e1];exact e);rw[e1];exact this⟩
 ·exact(h.sd.one a ha e).imp (h3 a ha e) id
theorem Fw{α β : Type}(f:α→Int)(g:β→Int):∀(l:List α)(m:List β),l.Pairwise (λx y=>f x<f y)→m.Pairwise (λx y=>g x<g y)→(∀x∈l,∃y∈m,g y=f x)→l.length≤m.length
 | [],m,_,_,_=>by simp
 | x::l,[],_,_,h=>by obtain⟨y,hy,_⟩:=h x (by simp);cases hy
 | x::l,y::m,h1,h2,h3=>by
  have hx:=(SY.1 h1).1;have hy:=(SY.1 h2).1
  have:=Fw f g l m (SY.1 h1).2 (SY.1 h2).2 (λz hz=>by
   obtain⟨w,hw,e⟩:=h3 z (by simp[hz])
   rcases NH.1 hw with rfl | hw
   ·obtain⟨w',hw',e'⟩:=h3 x (by simp)
    rcases NH.1 hw' with rfl | hw'
    ·have:=hx z hz;omega
    ·have:=hy w' hw';have:=hx z hz;omega
   ·exact⟨w,hw,e⟩)
  simp;omega
theorem MJ.sl{E:SA}{N:Nat}{s:JG}(h:MJ E N s):s.LH.length≤12:=
 P6 (Fw (·.LG) (·.Id) _ _ h.ss h.ns h.sk) h.nl
theorem MJ.sb{E:SA}{N:Nat}{s:JG}(h:MJ E N s):SB s:=by
 have h1:=h.nl;have h2:=h.al;have h3:=h.cl;have h4:=h.sl;have h5:=h.pl
 refine⟨⟨by omega,by omega,by omega,by omega,by omega⟩,h.cf.small,λn hn=>(h.nk n hn).1,λc hc=>(h.ck c hc).size.vb,λp hp=>(h.pk p hp).1,λa ha=>by have:=(h.ak a ha).Lf.len;omega,λa ha=>by have:=(h.ak a ha).al;omega,λa ha x hx=>?_⟩
 have:=(h.ak a ha).ask x hx;have hc:=this.count
 exact⟨this.size.vb,by omega,by omega⟩
theorem MJ.z{E:SA}{N:Nat}{s:JG}(h:MJ E N s):M4 s:=h.sb.z
theorem MJ.sc{E:SA}{N:Nat}{s:JG}(h:MJ E N s):SC s:=⟨h.sb,h.cf,by have:=h.nl;omega⟩
theorem MJ.q{E:SA}{N:Nat}{s:JG}(h:MJ E N s){a:LM}(ha:a∈s.Lv):a.Ls.length≤1000000:=h.sb.aq a ha
theorem gC{α : Type}{id:α→Int}:∀{l:List α},l.Pairwise (λx y=>id x<id y)→∀{a b:α},a∈l→b∈l→id a=id b→a=b
 | [],_,_,_,ha,_,_=>nomatch ha
 | x::l,h,a,b,ha0,hb0,e=>by
  have h1:=(SY.1 h).1;rcases NH.1 ha0 with ha | ha
  ·subst ha;rcases NH.1 hb0 with hb | hb
   ·exact hb.symm
   ·have:=h1 b hb;omega
  ·rcases NH.1 hb0 with hb | hb
   ·subst hb;have:=h1 a ha;omega
   ·exact gC (SY.1 h).2 ha hb e
theorem MJ.aaB{E:SA}{N:Nat}{s:JG}(h:MJ E N s){a:LM}(hb:∃b∈s.Lv,b.Id=a.Id∧(a.JG=2→b.JG=2))(ha:PD N s.Lg a)(hg:GrS s.L8 s.Seq a)(hc:a.JG=2∨∀c∈s.Kl,c.LM≠a.Id):MJ E N (Pe s a):=by
 refine⟨h.cf,h.nl,h.ns,h.nk,?_,mu h.Rb,?_,h.cl,h.cs,?_,h.ss,h.sk,h.pl,h.ps,h.pk,h.now,h.ep,h.sq,⟨h.en.1,h.en.2.1,λx hx=>((aS h.Rb).1 hx).elim (λe=>e▸hg) λhx=>h.en.2.2 x hx.1⟩,h.sd.Xa,h.sd.S9,h.sd.slt,h.sd.Vq,h.sd.fit,λx hx e=>?_⟩
 ·show(N9 (·.Id) s.Lv a).length≤16;rw[mT.2 (hb.imp λb hb=>⟨hb.1,hb.2.1⟩) h.Rb];exact h.al
 ·intro x hx;rcases(aS h.Rb).1 hx with rfl | ⟨hx,_⟩
  ·exact ha
  ·exact h.ak x hx
 ·intro c hc';have hck:=h.ck c hc';refine⟨hck.size,?_,hck.label,hck.id⟩;obtain⟨b,hb,e1,e2⟩:=hck.app;by_cases he:b.Id=a.Id
  ·rcases hc with hc | hc
   ·exact⟨a,(aS h.Rb).2 (.inl rfl),by omega,hc⟩
   ·exact absurd (by omega) (hc c hc')
  ·exact⟨b,(aS h.Rb).2 (.inr ⟨hb,he⟩),e1,e2⟩
 ·rcases(aS h.Rb).1 hx with rfl | ⟨hx,_⟩
  ·obtain⟨b,hb,e1,e2⟩:=hb;have:=h.sd.one b hb (e2 e);rw[e1]at this;exact this
  ·exact h.sd.one x hx e
theorem GG{l m:List Vec}(h:l.Sublist m)(hm:∀v∈m,0≤v.Mem∧0≤v.LA):(Ol l).Mem≤(Ol m).Mem∧(Ol l).LA≤(Ol m).LA:=by
 induction h with
 | slnil=>exact⟨YG _,YG _⟩
 | cons v h ih=>have h1:=ih λw hw=>hm w (U_ _ hw);have h2:=hm v YS;rw[oA];unfold MF;dsimp only;omega
 | cons_cons v h ih=>have h1:=ih λw hw=>hm w (U_ _ hw);rw[oA,oA];unfold MF;dsimp only;omega
theorem ED{s t:JG}(h:t.Kl.Sublist s.Kl)(hs:∀c∈s.Kl,RJ c.LY)(i:Int):(jD t i).Mem≤(jD s i).Mem∧(jD t i).LA≤(jD s i).LA:=by refine GG ((h.filter _).map _) λv hv=>?_;obtain⟨c,hc,rfl⟩:=RA.1 hv;have:=hs c (Ta.1 hc).1;unfold RJ at this;omega
theorem MJ.less{E:SA}{N:Nat}{s:JG}(h:MJ E N s){cs:List Lx}{sl:List Nt}(h1:cs.Sublist s.Kl)(h2:sl.Sublist s.LH)(hm:∀a∈s.Lv,a.JG=2→E.app a.Id∨OP cs a.Id=OP s.Kl a.Id):MJ E N ⟨s.Lg,s.Lu,s.Lv,cs,sl,s.LJ,s.Now,s.L8,s.Seq⟩:=by
 refine⟨h.cf,h.nl,h.ns,h.nk,h.al,h.Rb,h.ak,P6 h1.length_le h.cl,h.cs.sublist h1,λc hc=>?_,h.ss.sublist h2,λx hx=>h.sk x (h2.subset hx),h.pl,h.ps,h.pk,h.now,h.ep,h.sq,h.en,
  h.sd.Xa,λc hc=>h.sd.S9 c (h1.subset hc),λx hx=>h.sd.slt x (h2.subset hx),λc hc=>h.sd.Vq c (h1.subset hc),λn hn=>?_,λa ha e=>?_⟩
 ·have:=h.ck c (h1.subset hc);exact⟨this.size,this.app,this.label,this.id⟩
 ·have h3:=ED (s:=s) (t:=⟨s.Lg,s.Lu,s.Lv,cs,sl,s.LJ,s.Now,s.L8,s.Seq⟩) h1 (λc hc=>(h.ck c hc).size) n.Id;have h4:=h.sd.fit n hn;omega
 ·rcases hm a ha e with e1 | e1
  ·exact .inl e1
  ·exact(h.sd.one a ha e).imp id λe2=>by rw[← e1]at e2;exact e2
theorem MJ.away{E:SA}{N:Nat}{s:JG}(h:MJ E N s)(i:Int)(hm:∀c∈s.Kl,c.Id=i→c.Lp=false):MJ E N (Xm s i):=h.less QdC (List.Sublist.refl _) λa _ _=>.inr (by
 unfold OP;rw[QgO];refine List.filter_congr λc hc=>?_;by_cases e:c.Id=i
 ·rw[hm c hc e,Bool.and_false,Bool.false_and]
 ·rw[show(c.Id != i)=true from bne_iff_ne.2 e,QgF])
def exA(E:SA)(i:Int):SA:=⟨E.S9,λj=>E.app j∨j=i⟩
theorem MJ.an3{E:SA}{N:Nat}{s:JG}(h:MJ E N s)(i:Int):MJ (exA E i) N (UR s i):=
 MJ.less (E:=exA E i) (h.relax (λ_ _ e=>e) (λ_ _ e=>e) λ_ _ _ e=>.inl e) QdC QdC λa _ _=>by
  by_cases e:a.Id=i
  ·exact .inl (.inr e)
  ·refine .inr ?_;unfold OP;rw[QgO];refine List.filter_congr λc hc=>?_;by_cases e2:c.LM=a.Id
   ·rw[show(c.LM == i)=false from beq_eq_false_iff_ne.2 (by omega),Wy,QgF]
   ·rw[show(c.LM == a.Id)=false from beq_eq_false_iff_ne.2 e2];rfl
theorem MJ.aaA{E:SA}{N:Nat}{s:JG}(h:MJ E N s){n:LG}(hb:(∃b∈s.Lu,b.Id=n.Id)∨s.Lu.length<12)(hn:VB 1073741824 n.Cap∧0≤n.Ll∧n.Ll<s.Lg.Lm.length)
  (hu:((∀c∈s.Kl,c.LG≠n.Id)∧∀x∈s.LH,x.LG≠n.Id)∨∃b∈s.Lu,b.Id=n.Id∧b.Ll=n.Ll∧b.Cap=n.Cap∧(b.Up=true→n.Up=true∨E.S9 n.Id)):MJ E N (Zo s n):=by
 refine⟨h.cf,?_,mu h.ns,?_,h.al,h.Rb,h.ak,h.cl,h.cs,λc hc=>?_,h.ss,?_,h.pl,h.ps,h.pk,h.now,h.ep,h.sq,h.en,h.sd.Xa,λc hc=>?_,λx hx=>?_,h.sd.Vq,λm hm=>?_,h.sd.one⟩
 ·show(N9 (·.Id) s.Lu n).length≤12;rcases hb with hb | hb
  ·rw[mT.2 hb h.ns];exact h.nl
  ·have:=(mT (id:=λx:LG=>x.Id) (l:=s.Lu) (a:=n)).1;omega
 ·intro x hx;rcases(aS h.ns).1 hx with rfl | ⟨hx,_⟩
  ·exact hn
  ·exact h.nk x hx
 ·have:=h.ck c hc;exact⟨this.size,this.app,this.label,this.id⟩
 ·intro x hx;obtain⟨b,hb,e⟩:=h.sk x hx;by_cases he:b.Id=n.Id
  ·exact⟨n,(aS h.ns).2 (.inl rfl),by omega⟩
  ·exact⟨b,(aS h.ns).2 (.inr ⟨hb,he⟩),e⟩
 ·obtain⟨b,hb,e1,e2,e3⟩:=h.sd.S9 c hc;by_cases he:b.Id=n.Id
  ·rcases hu with hu | ⟨b',hb',f1,f2,f3,f4⟩
   ·exact absurd (by omega) (hu.1 c hc)
   ·have:b=b':=gC (id:=λx:LG=>x.Id) h.ns hb hb' (by omega)
    subst this
    exact⟨n,(aS h.ns).2 (.inl rfl),by omega,by omega,e3.elim f4 λe=>.inr (by rw[← he];exact e)⟩
  ·exact⟨b,(aS h.ns).2 (.inr ⟨hb,he⟩),e1,e2,e3⟩
 ·obtain⟨b,hb,e1,e3⟩:=h.sd.slt x hx;by_cases he:b.Id=n.Id
  ·rcases hu with hu | ⟨b',hb',f1,f2,f3,f4⟩
   ·exact absurd (by omega) (hu.2 x hx)
   ·have:b=b':=gC (id:=λx:LG=>x.Id) h.ns hb hb' (by omega)
    subst this
    exact⟨n,(aS h.ns).2 (.inl rfl),by omega,e3.elim f4 λe=>.inr (by rw[← he];exact e)⟩
  ·exact⟨b,(aS h.ns).2 (.inr ⟨hb,he⟩),e1,e3⟩
 ·rcases(aS h.ns).1 hm with rfl | ⟨hm,_⟩
  ·rcases hu with hu | ⟨b,hb,f1,f2,f3,f4⟩
   ·have e:jD (Zo s m) m.Id=⟨0,0⟩:=by
     show Ol ((s.Kl.filter λc=>c.LG == m.Id).map (·.LY))=_
     rw[QdS.2 λc hc=>by simpa using hu.1 c hc];rfl
    rw[e];have:=hn.1;unfold VB at this;dsimp only;omega
   ·have:=h.sd.fit b hb;rw[f1,f3]at this;exact this
  ·exact h.sd.fit m hm
def noS:Nt:=⟨0,0,0⟩
def zw(s:JG)(i:Int):Option Nt:=s.LH.find? λx=>x.LG == i
theorem JR{s:JG}(h:M4 s)(i:Int):kq s i=some ((zw s i).elim (noS,false) λx=>(x,true)):=by
 unfold kq
 have e:=eT (λi=>(noS,i)) s.LH (λq=>q.LG == i) (λq=>.inl (q,true)) (.inr noS) (step:=dP s i) (by have:=h.l;omega) ?_ ?_ ?_
 ·unfold noS at e;rw[e];unfold zw noS
  cases s.LH.find? λq=>q.LG == i<;>rfl
 ·intro k hk hp;unfold dP;rw[ah hk,ai hk];simp only[cond_true,K_,hp,cond_false]
 ·intro k hk hp;unfold dP;rw[ah hk,ai hk];simp only[cond_true,K_,hp]
 ·unfold dP;rw[am];rfl
def Pp(s:JG)(i:Int):JG:=⟨s.Lg,s.Lu,s.Lv,s.Kl,s.LH.filter λx=>x.LG != i,s.LJ,s.Now,s.L8,s.Seq⟩
theorem rq{s:JG}(h:M4 s)(i:Int):cZ s i=some (Pp s i):=by
 unfold cZ;have hc:=h.l
 have e:=bQ (λ(l:List Nt) i=>(l,i)) s.LH (λc=>c.LG != i) id (step:=eY s i) (by omega) ?_ ?_
 ·rw[e,QfA];rfl
 ·intro k hk l hl;unfold eY;rw[ah hk,ai hk];simp only[cond_true,K_]
  cases hp:(s.LH[k].LG != i)<;>simp only[cond_true,cond_false,K_,if_true]
  ·rfl
  ·rw[ao (by simp;omega) (by omega)];rfl
 ·intro l;unfold eY;rw[am];rfl
theorem MJ.noSlot{E:SA}{N:Nat}{s:JG}(h:MJ E N s)(i:Int):MJ E N (Pp s i):=h.less (List.Sublist.refl _) QdC λ_ _ _=>.inr rfl
def F0(s:JG)(app prio:Int):Bool:=(s.LH.find? λx=>x.LM == app&&x.LD == prio).isSome
theorem Iq{s:JG}(h:M4 s)(app prio:Int):jZ s app prio=some (F0 s app prio):=by
 unfold jZ
 have st:∀k (hk:k<s.LH.length),dB s app prio (k:Int)=some (bif s.LH[k].LM == app&&s.LH[k].LD == prio then .inr (.inl true)else .inl (LC ((k:Int)+1))):=by
  intro k hk;unfold dB;rw[ah hk,ai hk];simp only[cond_true,K_]
  cases s.LH[k].LM == app<;>cases s.LH[k].LD == prio<;>rfl
 have e:=eT (λi=>i) s.LH (λx=>x.LM == app&&x.LD == prio) (λq=>(.inl true:Bool ⊕ Unit)) (.inr ()) (step:=dB s app prio) (by have:=h.l;omega) ?_ ?_ ?_
 ·rw[e];unfold F0
  cases s.LH.find? λx=>x.LM == app&&x.LD == prio<;>rfl
 ·intro k hk hp;rw[st k hk,hp];rfl
 ·intro k hk hp;rw[st k hk,hp];rfl
 ·unfold dB;rw[am];rfl
def Pm{α : Type}(id:α→Int)(l:List α)(a:α):List α:=(l.takeWhile λx=>decide (id x<id a))++a::l.dropWhile λx=>decide (id x<id a)
theorem Av{α : Type}{id:α→Int}{l:List α}{a:α}(h:∀x∈l,id x≠id a):Pm id l a=N9 id l a:=by
 unfold Pm N9;have:∀x∈l.dropWhile λx=>decide (id x<id a),id x≠id a:=λx hx=>h x ((List.dropWhile_sublist _).subset hx)
 cases hd:l.dropWhile λx=>decide (id x<id a)with
 | nil=>rfl
 | cons b y=>
  rw[hd]at this;dsimp only
  rw[if_neg (this b (by simp))]
theorem CY{α : Type}{id:α→Int}{b:Nat}(hb:b≤1000){l:List α}(hn:l.length≤1000000){a:α}{k1:Int}(hk:k1=((l.takeWhile λx=>decide (id x<id a)).length:Int)){β : Type}(f:List α→Option β) :
  ((slc l 0 k1).bind λx=>(app b [] x).bind λl1=>(app b l1 [a]).bind λl2=>(slc l k1 (l.length:Int)).bind λl3=>(app b l2 l3).bind f)=f (Pm id l a):=by
 have hle:=mZ (λx=>decide (id x<id a)) l;have ht:=oO (λx=>decide (id x<id a)) l;subst hk;unfold Pm;generalize hA:l.takeWhile (λx=>decide (id x<id a))=A at hle ht ⊢
 have s1:slc l 0 (A.length:Int)=some A:=by
  unfold slc
  rw[if_pos ⟨by omega,by omega,by omega⟩,TG,ht.1];rfl
 have s2:slc l (A.length:Int) (l.length:Int)=some (l.drop A.length):=by
  unfold slc
  rw[if_pos ⟨by omega,by omega,by omega⟩,TG,TG,RB]
 rw[s1,K_,ao (by simp;omega) hb,K_,PX,ao (by simp;omega) hb,K_,s2,K_,ao (by simp;omega) hb,K_,ht.2]
 simp
def abG(s:JG)(x:Nt):JG:=⟨s.Lg,s.Lu,s.Lv,s.Kl,Pm (·.LG) s.LH x,s.LJ,s.Now,s.L8,s.Seq⟩
theorem JQ{s:JG}(h:M4 s)(x:Nt):kD s x=some (abG s x):=by
 unfold kD;have hn:=h.l
 have e:=kL s.LH (λy=>decide (y.LG<x.LG)) (step:=gG s x) (by omega) ?_ ?_
 ·rw[e,K_]
  exact CY (id:=λx:Nt=>x.LG) (by omega) (by omega) rfl (λl4=>some (⟨s.Lg,s.Lu,s.Lv,s.Kl,l4,s.LJ,s.Now,s.L8,s.Seq⟩:JG))
 ·intro k hk;unfold gG;rw[ah hk,ai hk];simp only[cond_true,K_]
  cases decide (s.LH[k].LG<x.LG)<;>rfl
 ·unfold gG;rw[am];rfl
theorem MJ.hold{E:SA}{N:Nat}{s:JG}(h:MJ E N s){x:Nt}(h1:∀y∈s.LH,y.LG≠x.LG)(h2:∃n∈s.Lu,n.Id=x.LG∧n.Up=true):MJ E N (abG s x):=by
 have e:Pm (·.LG) s.LH x=N9 (·.LG) s.LH x:=Av h1;refine⟨h.cf,h.nl,h.ns,h.nk,h.al,h.Rb,h.ak,h.cl,h.cs,λc hc=>?_,?_,?_,h.pl,h.ps,h.pk,h.now,h.ep,h.sq,h.en,h.sd.Xa,h.sd.S9,?_,h.sd.Vq,h.sd.fit,h.sd.one⟩
 ·have:=h.ck c hc;exact⟨this.size,this.app,this.label,this.id⟩
 ·show(Pm (·.LG) s.LH x).Pairwise _;rw[e];exact mu h.ss
 ·intro y hy;have hy:y∈Pm (·.LG) s.LH x:=hy;rw[e]at hy;rcases(aS h.ss).1 hy with rfl | ⟨hy,_⟩
  ·obtain⟨n,hn,e,_⟩:=h2;exact⟨n,hn,e⟩
  ·exact h.sk y hy
 ·intro y hy;have hy:y∈Pm (·.LG) s.LH x:=hy;rw[e]at hy;rcases(aS h.ss).1 hy with rfl | ⟨hy,_⟩
  ·obtain⟨n,hn,e,hu⟩:=h2;exact⟨n,hn,e,.inl hu⟩
  ·exact h.sd.slt y hy
def YD(s:JG):Int:=LC ((Rv .i64 s.L8 20)+(LC (s.Seq+1)))
theorem aiN{x:Int}(h0:0≤x)(h1:x≤1048576):Rv .i64 x 20=x*1048576:=by
 unfold Rv
 have:(2:Int) ^ min (20:Int).toNat IntKind.i64.bits=1048576:=by decide
 rw[this]
 exact aj (by omega) (by omega)
theorem K6{s:JG}(h1:0≤s.L8∧s.L8≤1048576)(h2:0≤s.Seq∧s.Seq≤1048575):YD s=s.L8*1048576+s.Seq+1:=by
 unfold YD
 rw[aiN h1.1 h1.2,aj (x:=s.Seq+1) (by omega) (by omega),aj (by omega) (by omega)]
 omega
def Oa(s:JG)(n:LG)(a:LM)(x:Ask):Lx:=⟨YD s,a.Id,n.Id,x.LY,x.LD,n.Ll,a.JG == 1,0⟩
def SE(s:JG)(a:LM)(x:Ask):LM:=
 if a.JG=1 then⟨a.Id,2,a.Ls,a.User,a.LD,a.Lp,[],s.Now,0,a.MC,a.Np,a.Told,a.NW⟩
 else⟨a.Id,a.JG,a.Ls,a.User,a.LD,a.Lp,Si a.Mq x.LD,a.NV,a.Nc,a.MC++[YD s],a.Np,a.Told,a.NW⟩
def tI(s:JG)(n:LG)(a:LM)(x:Ask):JG:=
 Pe ⟨s.Lg,s.Lu,s.Lv,Pm (·.Id) s.Kl (Oa s n a x),s.LH,s.LJ,s.Now,s.L8,s.Seq+1⟩ (SE s a x)
theorem Be{s:JG}(h:M4 s)(hs:0≤s.Seq∧s.Seq≤1048575)(n:LG){a:LM}(h1:a.Mq.length≤100)(h2:∀x∈a.Mq,0≤x.ME∧x.ME≤1000000)(h3:a.MC.length≤10000000)(x:Ask) :
  fy s n a x=some (tI s n a x,Oa s n a x):=by
 unfold fy
 obtain⟨r,er,hr⟩:=J1 (l:=a.Mq) (by omega) h2 x.LD
 rw[er,K_];have hn:=h.c
 have e1:(bif a.JG == 1 then some (⟨a.Id,2,a.Ls,a.User,a.LD,⟨a.Lp.Mem,a.Lp.LA⟩,[],s.Now,0,a.MC,a.Np,a.Told,a.NW⟩:LM)
  else(app 8 [] a.MC).bind λl=>(app 8 l [LC ((Rv .i64 s.L8 20)+(LC (s.Seq+1)))]).bind λl1=>
   some (⟨a.Id,a.JG,a.Ls,a.User,a.LD,⟨a.Lp.Mem,a.Lp.LA⟩,r.1,a.NV,a.Nc,l1,a.Np,a.Told,a.NW⟩:LM))=some (SE s a x):=by
  unfold SE;by_cases ha:a.JG=1
  ·rw[if_pos ha,show(a.JG == 1)=true by simpa using ha];rfl
  ·rw[if_neg ha,show(a.JG == 1)=false by simpa using ha,cond_false,ao (by simp;omega) (by omega),K_,ao (by simp;omega) (by omega),K_,hr]
   rfl
 rw[e1,K_]
 have e:=kL s.Kl (λy=>decide (y.Id<(Oa s n a x).Id)) (step:=fO s) (by omega) ?_ ?_
 ·rw[e,K_]
  refine(CY (id:=λx:Lx=>x.Id) (a:=Oa s n a x) (b:=72) (by omega) (by omega) rfl (λl6=>(aO (⟨⟨s.Lg.Lm,s.Lg.Lh⟩,s.Lu,s.Lv,l6,s.LH,s.LJ,s.Now,s.L8,LC (s.Seq+1)⟩:JG) (SE s a x)).bind λx3=>some (x3,Oa s n a x))).trans ?_
  rw[aj (x:=s.Seq+1) (by omega) (by omega)]
  rw[Ak (by exact h.a),K_]
  rfl
 ·intro k hk;unfold fO;rw[ah hk,ai hk];simp only[cond_true,K_]
  show(bif decide (s.Kl[k].Id<YD s)then _ else _)=some (if decide (s.Kl[k].Id<YD s)=true then _ else _)
  cases decide (s.Kl[k].Id<YD s)<;>rfl
 ·unfold fO;rw[am];rfl
end Go.Fx.D
