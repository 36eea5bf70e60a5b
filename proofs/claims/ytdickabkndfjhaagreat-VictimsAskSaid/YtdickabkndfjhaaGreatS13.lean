/-
  The reference manager: what holds of its state after every script. Conditions: none.
-/
import Derived.Test.YtdickabkndfjhaaGreatS12
namespace Go.Fx.D
open Go Go.Fx
set_option linter.unusedVariables false
set_option linter.unusedSimpArgs false
theorem Fb{l:List Ask}{p:Int}{x:Ask}(h:V7 l p=some x):x∈l∧x.LD=p:=nT h
theorem Fy{N:Nat}(hN:N≤1000000){s:JG}(h:Inv N s){n:LG}(hn:n∈s.Lu)(hup:n.Up=true)(hc:s.Kl.length<200)(hq:s.Seq<1048575)(x:Nt) :
  Gv (kQ s n x) λr=>if r.2.2.2=true then Inv (N+1) r.1 else Inv N r.1∧(∀y∈r.1.LH,y.LG≠n.Id)∧r.1.Lu=s.Lu∧r.1.Kl=s.Kl∧r.1.Seq=s.Seq:=by
 have hrel:∀c:Lx,(λr:JG×Int×Lx×Bool=>if r.2.2.2=true then Inv (N+1) r.1 else Inv N r.1∧(∀y∈r.1.LH,y.LG≠n.Id)∧r.1.Lu=s.Lu∧r.1.Kl=s.Kl∧r.1.Seq=s.Seq) (Pp s n.Id,0,c,false):=by
  intro c;dsimp only
  rw[if_neg (by simp)]
  exact⟨h.noSlot _,λy hy=>by have:=(Ta.1 hy).2;simpa using this,rfl,rfl,rfl⟩
 unfold kQ;rw[dJ h.z,K_]
 cases ha0:M9 s x.LM with
 | none=>
  simp only[Option.elim]
  rw[Fo (by simp[Yy]),K_]
  simp only[Wy,cond_true,K_];rw[rq h.z,K_];exact aa (hrel _)
 | some a=>
  obtain⟨ha,_⟩:=tM ha0;have hak:=h.ak a ha;simp only[Option.elim]
  rw[Fo (by have:=hak.al;omega),K_]
  refine ad (P:=λb=>b=false→Mt a=true∧∃k∈a.Mq,V7 a.Mq x.LD=some k) ?_ ?_
  ·refine ae (λ_=>aa (by simp)) λ_=>?_
   rw[jy,K_]
   refine ae (λ_=>aa (by simp)) λhl=>?_
   have hl:Mt a=true:=by simpa using hl
   cases hk:V7 a.Mq x.LD with
   | none=>exact aa (by simp)
   | some k=>
    have hkm:=(Fb hk).1;have hkk:=hak.ask k hkm;simp only[Option.elim,PG,cond_false];rw[Eb,K_]
    refine ae (λ_=>aa (by simp)) λ_=>?_
    rw[mr,K_]
    refine ae (λ_=>aa (by simp)) λ_=>?_
    rw[E_ h.sc (h.R5 ha) hkk.size.vb,K_]
    refine ae (λ_=>aa (by simp)) λ_=>?_
    rw[CJ h.sc (h.R5 ha),K_];exact aa λ_=>⟨hl,k,hkm,rfl⟩
  ·intro b hb;refine ae (λ_=>?_) λhbf=>?_
   ·rw[rq h.z,K_];exact aa (hrel _)
   ·obtain⟨hl,k,hkm,hk⟩:=hb hbf;have hkk:=hak.ask k hkm;rw[hk];simp only[Option.elim];refine ad (P:=λq=>q=false→RL k.LY (VR s n.Id)=true) ?_ λq hq2=>?_
    ·rw[Cp h.sb,K_,mr,K_,B_ h.sc (h.R5 ha) n.Ll hkk.size.vb]
     exact ae (λ_=>aa (by simp)) λhf=>aa λ_=>by simpa using hf
    ·refine ae (λ_=>aa ?_) λhqf=>?_
     ·dsimp only;rw[if_pos rfl]
      exact h.mono (by omega)
     ·rw[rq h.z,K_];have hN':=h.noSlot n.Id
      rw[Be hN'.z hN'.sq n (by have:=hak.al;omega) (λy hy=>by have:=(hak.ask y hy).count;omega) (by have:=hak.gr;omega) k,K_]
      refine aa ?_;dsimp only;rw[if_pos rfl];exact hN'.grant hn hup ha hl hkk (hq2 hqf) hc hq
theorem KL{N:Nat}(hN:N≤1000000){s:JG}(h:Inv N s)(i:Int):Gv (k_ s i) λr=>Inv (N+1) r.1:=by
 unfold k_;rw[js h.z,K_]
 cases hn0:l_ s i with
 | none=>exact aa (h.mono (by omega))
 | some n=>
  obtain⟨hn,hid⟩:=qA hn0;simp only[Option.elim,PG,cond_false];refine ad (P:=λb=>b=false→n.Up=true∧s.Kl.length<200∧s.Seq<1048575) ?_ ?_
  ·refine ae (λ_=>aa (by simp)) λh0=>ae (λ_=>aa (by simp)) λh1=>aa λh2=>?_
   simp only[decide_eq_false_iff_not]at h1 h2
   exact⟨by simpa using h0,by omega,by omega⟩
  ·intro b hb
   refine ae (λ_=>aa (h.mono (by omega))) λhbf=>?_
   obtain⟨hup,hc,hq⟩:=hb hbf;rw[JR h.z,K_]
   refine ad (P:=λr=>match r with
    | .inl p=>Inv N p.1∧(∀y∈p.1.LH,y.LG≠n.Id)∧n∈p.1.Lu∧p.1.Kl.length<200∧p.1.Seq<1048575
    | .inr q=>Inv (N+1) q.1) ?_ ?_
   ·cases hs:zw s i with
    | none=>simp only[Option.elim,cond_false];refine aa ⟨h,λy hy e=>?_,hn,hc,hq⟩;have:=so (id:=λx:Nt=>x.LG) hs y hy;omega
    | some x=>
     simp only[Option.elim,cond_true];refine ad (Fy hN h hn hup hc hq x) ?_;rintro r hr;refine ae (λhb=>aa ?_) λhb=>aa ?_
     ·rw[if_pos hb]at hr;exact hr
     ·rw[if_neg (by simp[hb])]at hr
      exact⟨hr.1,hr.2.1,by rw[hr.2.2.1];exact hn,by rw[hr.2.2.2.1];exact hc,by rw[hr.2.2.2.2];exact hq⟩
   ·rintro(p | q) hr
    ·obtain⟨r1,r2,r3,r4,r5⟩:=hr;refine ad (AB hN r1 r3 hup r2 r4 r5 true) ?_;rintro⟨t,k,c⟩ ⟨q0,q1⟩;dsimp only at q0 q1 ⊢
     refine ae (λhz=>aa (q1 (by simpa using hz)).1) λhz=>?_
     obtain⟨u1,u2⟩:=q0 (by simpa using hz)
     refine ad (AB hN u1 (by rw[u2.nd];exact r3) hup (by rw[u2.sl];exact r2) (by rw[u2.cs];exact r4) (by rw[u2.sq];exact r5) false) ?_
     rintro⟨t',k',c'⟩ ⟨w0,w1⟩;refine aa ?_;dsimp only at w0 w1 ⊢;by_cases hk:k'=0
     ·exact(w0 hk).1.mono (by omega)
     ·exact(w1 hk).1
    ·exact aa hr
theorem EC{N:Nat}(hN:N≤900000){s:JG}(h:Inv N s)(i:Int):Gv (kt s i) λr=>Inv (N+3) r.1∧r.2.length≤3:=by
 unfold kt;refine ad (P:=λr=>Inv (N+3) r.1∧r.2.length≤3) ?_ λr hr=>aa hr
 refine az (λ(p:JG×List Lx) i=>(p.1,p.2,i)) 3 (λk p=>Inv (N+k) p.1∧p.2.length≤k) (step:=gZ i) (by omega) ?_ ?_ (s:=(s,[])) ⟨h,by simp⟩
 ·rintro k hk p ⟨hp,hl⟩;unfold gZ;dsimp only
  rw[show decide ((k:Int)<3)=true from decide_eq_true (by omega),cond_true]
  refine ad (KL (by omega) hp i) ?_
  rintro⟨t,kd,c⟩ hr;dsimp only at hr ⊢
  refine ae (λ_=>aa (.inr ⟨_,rfl,hr.mono (by omega),by dsimp only;omega⟩)) λ_=>?_
  rw[ao (by simp;omega) (by omega),K_]
  exact aa (.inl ⟨(t,p.2++[c]),rfl,hr,by simp;omega⟩)
 ·rintro p ⟨hp,hl⟩;unfold gZ;dsimp only;exact aa ⟨_,rfl,hp,hl⟩
theorem Jx{N:Nat}(hN:N≤800000){s:JG}(h:Inv N s)(x:Input)(hx:x.Ids.length≤1000):Gv (kF s x) λr=>Inv (N+1003) r.1:=by
 unfold kF;rw[js h.z,K_];refine ad (P:=λ_=>True) ?_ λq _=>?_
 ·repeat' (first | exact⟨_,rfl,trivial⟩ | refine ae (λ_=>?_) (λ_=>?_))
 refine ae (λ_=>?_) λ_=>?_
 ·rw[DE h.z,K_]
  exact aa (h.mono (by omega))
 refine ad (Ic h _ _) λr hr=>?_;refine ae (λ_=>aa (h.mono (Nat.le_add_right _ _))) λ_=>?_;refine ad (P:=λl=>l.length≤x.Ids.length) ?_ λids Ob=>?_
 ·refine az (λ(l:List Int) i=>(l,i)) x.Ids.length (λk l=>l.length≤k) (step:=hF x r) (by omega) ?_ ?_ (s:=[]) (by simp)
  ·intro k hk l hl;unfold hF;dsimp only;rw[ah hk,cond_true];refine ad (P:=λm=>m.length≤k+1) ?_ λm hm=>aa (.inl ⟨m,rfl,hm⟩);rw[ai hk,K_,fP hr.z,K_];refine ad (P:=λ_=>True) ?_ λq _=>?_
   ·repeat' (first | exact⟨_,rfl,trivial⟩ | refine ae (λ_=>?_) (λ_=>?_))
   refine ae (λ_=>?_) λ_=>aa (by omega)
   rw[ao (by simp;omega) (by omega),K_]
   exact aa (by simp;omega)
  ·intro l hl;unfold hF;rw[am];exact aa ⟨l,rfl,hl⟩
 refine ad (xZ hr (ids:=ids) (by omega)) λt ht=>?_
 refine ad (EC (by omega) ht x.Id) λu hu=>?_
 rw[DE hu.1.z,K_]
 exact aa (hu.1.mono (by omega))
theorem F2(x:Ask)(c:Lg):Gv (kG x (c.Lm.length:Int)) λe=>e=0→(0≤x.Ll∧x.Ll<c.Lm.length)∧RJ x.LY∧0≤x.ME∧x.ME≤50:=by
 have p9:∀n:Int,lw n=some (decide (1≤n)&&decide (n≤1073741824)):=λn=>tu n;unfold kG;refine ad (P:=λb=>b=false→(0≤x.Ll∧x.Ll<c.Lm.length)∧RJ x.LY) ?_ ?_
 ·refine ae (λ_=>aa (by simp)) λ_=>ae (λ_=>aa (by simp)) λ_=>ae (λ_=>aa (by simp)) λh1=>ae (λ_=>aa (by simp)) λh2=>?_
  rw[p9,K_]
  refine ae (λ_=>aa (by simp)) λh3=>?_
  rw[p9,K_]
  refine ae (λ_=>aa (by simp)) λh4=>?_
  simp only[decide_eq_false_iff_not,QdU,Ng,decide_eq_true_eq]at h1 h2 h3 h4
  refine nr (P:=λ_=>True) ?_ λb _ _=>⟨by omega,h3,h4⟩
  repeat' (first | exact⟨_,rfl,trivial⟩ | refine ae (λ_=>?_) (λ_=>?_))
 ·intro b hb
  refine ae (λ_=>aa (by simp)) λhbf=>?_
  obtain⟨h1,h2⟩:=hb hbf;refine ad (P:=λb=>b=false→0≤x.ME∧x.ME≤50) ?_ ?_
  ·refine ae (λ_=>aa (by simp)) λh3=>aa λh4=>?_
   simp only[decide_eq_false_iff_not]at h3 h4;omega
  ·intro b2 hb2
   refine ae (λ_=>aa (by simp)) λhf=>aa λ_=>⟨h1,h2,hb2 hf⟩
theorem KR{c:Lg}{l:List Ask}(hl:l.length≤1000)(hk:∀x∈l,NM c x)(hs:l.Pairwise λx y=>x.LD<y.LD){a:Ask}(h1:0≤a.Ll∧a.Ll<c.Lm.length)(h2:RJ a.LY)(h3:0≤a.ME∧a.ME≤50) :
  Gv (lO l a) λr=>r.1.length≤8∧(∀x∈r.1,NM c x)∧r.1.Pairwise λx y=>x.LD<y.LD:=by
 have hnew:a.ME≠0→NM c ⟨a.LD,a.Ll,⟨a.LY.Mem,a.LY.LA⟩,a.ME,a.LG,a.Om,0⟩:=λhc=>⟨h1,h2,by dsimp only;omega⟩
 unfold lO;refine ad (P:=λt=>t.1.length≤2*l.length∧(∀x∈t.1,NM c x)∧(t.2=false→a.ME≠0)∧t.1.Pairwise (λx y=>x.LD<y.LD)∧(t.2=false→∀x∈t.1,x.LD<a.LD)) ?_ ?_
 ·refine az (λ(t:List Ask×Bool) i=>(t.1,t.2,i)) l.length (λk t=>t.1.length≤2*k∧(∀x∈t.1,NM c x)∧(t.2=false→a.ME≠0)∧t.1.Pairwise (λx y=>x.LD<y.LD)∧(t.2=false→∀x∈t.1,x.LD<a.LD)∧∀x∈t.1,∀y∈l.drop k,x.LD<y.LD) (step:=jR l a) (by omega) ?_ ?_ (s:=([],a.ME == 0)) ⟨by simp,by simp,by simp,by simp,by simp,by simp⟩
  ·rintro k hkk ⟨m,d⟩ ⟨q1,q2,q3,q4,q5,q6⟩;dsimp only at q1 q2 q3 q4 q5 q6 ⊢;have hd:=Wq hkk
   have hsd:(l[k]::l.drop (k+1)).Pairwise λx y=>x.LD<y.LD:=by rw[← hd];exact hs.sublist (List.drop_sublist k l)
   have hafter:=(SY.1 hsd).1;unfold jR;dsimp only;rw[ah hkk,cond_true];refine ad (P:=λt=>t.1.length≤2*(k+1)∧(∀x∈t.1,NM c x)∧(t.2=false→a.ME≠0)∧t.1.Pairwise (λx y=>x.LD<y.LD)∧(t.2=false→∀x∈t.1,x.LD<a.LD)∧∀x∈t.1,∀y∈l.drop (k+1),x.LD<y.LD) ?_ λt ht=>aa (.inl ⟨t,rfl,ht⟩);refine ad (P:=λt=>t.1.length≤2*k+1∧(∀x∈t.1,NM c x)∧(t.2=false→a.ME≠0)∧t.1.Pairwise (λx y=>x.LD<y.LD)∧(t.2=false→(∀x∈t.1,x.LD<a.LD)∧l[k].LD≤a.LD)∧∀x∈t.1,∀y∈l.drop k,x.LD<y.LD) ?_ ?_
   ·refine ad (P:=λb=>(b=true→d=false∧a.LD<l[k].LD)∧(b=false→d=false→l[k].LD≤a.LD)) ?_ ?_
    ·refine ae (λhd=>?_) λhd=>aa ⟨by simp,λ_ e=>by rw[e]at hd;simp at hd⟩
     rw[ai hkk,K_]
     refine aa ⟨λe=>⟨by simpa using hd,by simpa using e⟩,λe _=>?_⟩
     simp only[gt_iff_lt,decide_eq_false_iff_not]at e;omega
    ·intro b hb
     refine ae (λhbt=>?_) λhbf=>aa ⟨by dsimp only;omega,q2,q3,q4,λe=>⟨q5 e,hb.2 hbf e⟩,q6⟩
     obtain⟨hdf,hlt⟩:=hb.1 hbt
     rw[ao (by simp;omega) (by omega),K_]
     refine aa ⟨by simp;omega,λx hx=>?_,by simp,?_,by simp,?_⟩
     ·rcases N_.1 hx with hx | hx
      ·exact q2 x hx
      ·rw[Ld]at hx;subst hx;exact hnew (q3 hdf)
     ·refine QcX.2 ⟨q4,by simp,λx hx y hy=>?_⟩
      rw[Ld]at hy;subst hy;exact q5 hdf x hx
     ·intro x hx y hy;rcases N_.1 hx with hx | hx
      ·exact q6 x hx y hy
      ·rw[Ld]at hx;subst hx;rw[hd]at hy;rcases NH.1 hy with rfl | hy
       ·exact hlt
       ·exact Int.lt_trans hlt (hafter y hy)
   ·rintro⟨m2,d2⟩ ⟨p1,p2,p3,p4,p5,p6⟩;dsimp only at p1 p2 p3 p4 p5 p6 ⊢
    have p6':∀x∈m2,∀y∈l.drop (k+1),x.LD<y.LD:=λx hx y hy=>p6 x hx y (by rw[hd];exact U_ _ hy)
    rw[ai hkk,K_]
    refine ae (λhne=>?_) λ_=>aa ⟨by dsimp only;omega,p2,p3,p4,λe=>(p5 e).1,p6'⟩
    have hne:l[k].LD≠a.LD:=by simpa using hne
    rw[K_,ao (by simp;omega) (by omega),K_]
    refine aa ⟨by simp;omega,λx hx=>?_,p3,?_,?_,?_⟩
    ·rcases N_.1 hx with hx | hx
     ·exact p2 x hx
     ·rw[Ld]at hx;subst hx;exact hk _ (Nq hkk)
    ·refine QcX.2 ⟨p4,by simp,λx hx y hy=>?_⟩
     rw[Ld]at hy;subst hy
     exact p6 x hx _ (by rw[hd];exact YS)
    ·intro e x hx;rcases N_.1 hx with hx | hx
     ·exact(p5 e).1 x hx
     ·rw[Ld]at hx;subst hx;have:=(p5 e).2;omega
    ·intro x hx y hy;rcases N_.1 hx with hx | hx
     ·exact p6' x hx y hy
     ·rw[Ld]at hx;subst hx;exact hafter y hy
  ·rintro t ⟨r1,r2,r3,r4,r5,r6⟩;unfold jR;dsimp only;rw[am,cond_false];exact aa ⟨t,rfl,r1,r2,r3,r4,r5⟩
 ·rintro⟨m,d⟩ ⟨q1,q2,q3,q4,q5⟩;dsimp only at q1 q2 q3 q4 q5 ⊢;refine ad (P:=λm=>(∀x∈m,NM c x)∧m.Pairwise λx y=>x.LD<y.LD) ?_ ?_
  ·refine ae (λhd=>?_) λ_=>aa ⟨q2,q4⟩
   have hdf:d=false:=by simpa using hd
   rw[ao (by simp;omega) (by omega),K_]
   refine aa ⟨λx hx=>?_,?_⟩
   ·rcases N_.1 hx with hx | hx
    ·exact q2 x hx
    ·rw[Ld]at hx;subst hx;exact hnew (q3 hdf)
   ·refine QcX.2 ⟨q4,by simp,λx hx y hy=>?_⟩
    rw[Ld]at hy;subst hy;exact q5 hdf x hx
  ·intro m2 hm2
   refine ae (λ_=>aa ⟨by simp,by simp,by simp⟩) λhlen=>aa ⟨?_,hm2.1,hm2.2⟩
   simp only[decide_eq_false_iff_not]at hlen;dsimp only;omega
theorem Hb{s:JG}{l:List Ask}(hl:l.length≤8)(hk:∀x∈l,NM s.Lg x)(hs:l.Pairwise λx y=>x.LD<y.LD){more:List Ask}(hm:more.length≤1000):Gv (jX s l more) λr=>r.1.length≤8∧(∀x∈r.1,NM s.Lg x)∧r.1.Pairwise λx y=>x.LD<y.LD:=by
 unfold jX
 refine ad (P:=λr=>match r with | .inl q=>q.1.length≤8∧(∀x∈q.1,NM s.Lg x)∧q.1.Pairwise (λx y=>x.LD<y.LD) | .inr q=>q.length≤8∧(∀x∈q,NM s.Lg x)∧q.Pairwise λx y=>x.LD<y.LD) ?_ ?_
 ·refine az (λ(l:List Ask) i=>(l,i)) more.length (λ_ l=>l.length≤8∧(∀x∈l,NM s.Lg x)∧l.Pairwise λx y=>x.LD<y.LD) (step:=fV s more) (by omega) ?_ ?_ (s:=l) ⟨hl,hk,hs⟩
  ·rintro k hkk l ⟨q1,q2,q3⟩;unfold fV;dsimp only;rw[ah hkk,cond_true,ai hkk,K_];refine ad (F2 more[k] s.Lg) λe he=>?_
   refine ae (λ_=>aa (.inr ⟨_,rfl,by simp⟩)) λhe0=>?_
   obtain⟨c1,c2,c3⟩:=he (by simpa using he0)
   rw[K_]
   refine ad (KR (by omega) q2 q3 c1 c2 c3) λr hr=>?_
   refine ae (λ_=>aa (.inr ⟨_,rfl,by simp⟩)) λ_=>aa (.inl ⟨r.1,rfl,hr⟩)
  ·intro l hl;unfold fV;rw[am];exact aa ⟨.inr l,rfl,hl⟩
 ·rintro(q | q) hq
  ·exact aa hq
  ·exact aa hq
theorem A3{s:JG}(h:M4 s){ids:List Int}(hi:ids.length≤1000000):Gv (ft s ids) λ_=>True:=by
 unfold ft;refine ad (P:=λ_=>True) ?_ λ_ _=>aa trivial
 refine az (λ(l:List Lx) i=>(l,i)) ids.length (λk l=>l.length≤k) (step:=fT s ids) (by omega) ?_ ?_ (s:=[]) (by simp)
 ·intro k hk l hl;unfold fT;dsimp only;rw[ah hk,cond_true,ai hk,K_,fP h,K_];refine ad (P:=λm=>m.length≤k+1) ?_ λm hm=>aa (.inl ⟨m,rfl,hm⟩)
  refine ae (λ_=>?_) λ_=>aa (by omega)
  rw[ao (by simp;omega) (by omega),K_]
  exact aa (by simp;omega)
 ·intro l hl;unfold fT;rw[am];exact aa ⟨l,rfl,trivial⟩
theorem wU{s:JG}(h:M4 s)(i:Int):Gv (dZ s i) λ_=>True:=by
 have hn:=h.c;unfold dZ;refine ad (P:=λ_=>True) ?_ λ_ _=>aa trivial
 refine az (λ(l:List Int) i=>(l,i)) s.Kl.length (λk l=>l.length≤k) (step:=ez s i) (by omega) ?_ ?_ (s:=[]) (by simp)
 ·intro k hk l hl;unfold ez;dsimp only;rw[ah hk,cond_true,ai hk,K_,K_];refine ad (P:=λm=>m.length≤k+1) ?_ λm hm=>aa (.inl ⟨m,rfl,hm⟩);refine ad (P:=λ_=>True) ?_ λq _=>?_
  ·repeat' (first | exact⟨_,rfl,trivial⟩ | refine ae (λ_=>?_) (λ_=>?_))
  refine ae (λ_=>?_) λ_=>aa (by omega)
  rw[K_,ao (by simp;omega) (by omega),K_]
  exact aa (by simp;omega)
 ·intro l hl;unfold ez;rw[am];exact aa ⟨l,rfl,trivial⟩
theorem E9{N:Nat}(hN:N≤900000){s:JG}(h:Inv N s)(x:Input)(hi:x.Ids.length≤1000)(hx:x.Mq.length≤1000):Gv (iV s x) λr=>Inv N r.1:=by
 unfold iV;rw[dJ h.z,K_]
 cases ha0:M9 s x.Id with
 | none=>exact aa h
 | some a=>
  obtain⟨ha,_⟩:=tM ha0;have hak:=h.ak a ha;simp only[Option.elim,PG,cond_false];refine ae (λ_=>aa h) λhst=>ae (λ_=>aa h) λ_=>ae (λ_=>?_) λ_=>ae (λ_=>aa h) λ_=>?_
  ·refine ad (A3 h.z (by have:=hak.to;omega)) λ_ _=>ad (wU h.z _) λ_ _=>?_
   rw[ao (by have:=hak.lo;simp;omega) (by omega),K_]
   exact aa h
  ·have hst:a.JG=2:=by simpa using hst
   refine ad (Hb hak.al hak.ask hak.ap hx) λr hr=>?_;refine ae (λ_=>aa h) λ_=>?_;refine ad (P:=λt=>Inv N t.1∧t.1.Lg=s.Lg∧t.1.Lv=s.Lv∧PD N s.Lg t.2∧t.2.Id=a.Id∧t.2.JG=2) ?_ ?_
   ·refine az (λ(t:JG×LM) i=>(t.1,t.2,i)) x.Ids.length (λ_ t=>Inv N t.1∧t.1.Lg=s.Lg∧t.1.Lv=s.Lv∧PD N s.Lg t.2∧t.2.Id=a.Id∧t.2.JG=2) (step:=e_ x) (by omega) ?_ ?_ (s:=(s,a)) ⟨h,rfl,rfl,hak,rfl,hst⟩
    ·rintro k hk ⟨t,b⟩ ⟨q1,q2,q3,q4,q5,q6⟩;dsimp only at q1 q2 q3 q4 q5 q6 ⊢;unfold e_;dsimp only;rw[ah hk,cond_true];refine ad (P:=λt=>Inv N t.1∧t.1.Lg=s.Lg∧t.1.Lv=s.Lv∧PD N s.Lg t.2∧t.2.Id=a.Id∧t.2.JG=2) ?_ λt ht=>aa (.inl ⟨t,rfl,ht⟩);rw[ai hk,K_,fP q1.z,K_];refine ad (P:=λq=>q=true→∀c∈t.Kl,c.Id=((cN t x.Ids[k]).elim (Wu,false) λx=>(x,true)).1.Id→c.Lp=false) ?_ λq hqq=>?_
     ·cases hct:cN t x.Ids[k]with
      | none=>exact ae (λe=>by cases e) λ_=>aa (by simp)
      | some d=>
       refine ae (λ_=>ae (λ_=>aa λe c hc e2=>?_) λ_=>aa (by simp)) λ_=>aa (by simp)
       have:=gC (id:=λx:Lx=>x.Id) q1.cs hc (lR hct).1 e2;subst this;simpa using e
     refine ae (λhqt=>?_) λ_=>aa ⟨q1,q2,q3,q4,q5,q6⟩
     rw[x_ q1.z,K_,sK (by have:=q4.gr;omega),K_]
     refine aa ⟨q1.away _ (hqq hqt),q2,q3,⟨q4.st,q4.user,q4.Lf,q4.leaf,q4.X9,q4.al,q4.ask,P6 (TP _ _) q4.gr,q4.ki,q4.to,q4.lo,q4.ap⟩,q5,q6⟩
    ·intro t ht;unfold e_;dsimp only;rw[am,cond_false];exact aa ⟨t,rfl,ht⟩
   ·rintro⟨t,b⟩ ⟨q1,q2,q3,q4,q5,q6⟩;dsimp only at q1 q2 q3 q4 q5 q6 ⊢
    refine ad (A3 q1.z (by have:=q4.gr;omega)) λ_ _=>ad (wU q1.z _) λ_ _=>?_
    rw[ao (by have:=q4.ki;simp;omega) (by omega),K_,oi q1.z,K_]
    refine aa (q1.aaB ⟨a,by rw[q3];exact ha,q5.symm,λ_=>hst⟩ ?_ ⟨by simp,by simp⟩ (.inl q6))
    rw[q2]
    exact⟨q4.st,q4.user,q4.Lf,q4.leaf,q4.X9,hr.1,hr.2.1,by simp,by simp,q4.gr,q4.ki,hr.2.2⟩
theorem Em{N:Nat}{s:JG}(h:Inv N s)(text:Str)(h45:∀b∈text,b≠45):Gv (iS s text) λr=>Inv N r.1:=by
 unfold iS;refine ad (Gz text) ?_;rintro⟨c,e0⟩ ⟨hc,hcl,hcn⟩;dsimp only at hc hcl hcn ⊢;refine ad (P:=λe=>e=0→Nj c∧bw c=some 0) ?_ ?_
 ·refine ae (λ_=>?_) λhe=>aa λe=>?_
  ·refine ad (P:=λe=>e=0→Nj c∧bw c=some 0) ?_ λe he=>aa he;obtain⟨e,e1,e2⟩:=HO hc hcl λq hq b hb=>h45 b (hcn q hq b hb)
   exact⟨e,e1,λe3=>⟨e2 e3,by rw[e1,e3]⟩⟩
  ·subst e;simp at he
 ·intro e he;refine ae (λ_=>aa h) λhe0=>?_
  obtain⟨hcf,apu⟩:=he (by simpa using he0)
  refine ae (λ_=>aa h) λhlen=>?_;simp only[decide_eq_false_iff_not]at hlen;have hlb:=h.cf.lab
  refine ad (P:=λr=>match r with | .inl q=>Inv N q.1 | .inr _=>True) ?_ ?_
  ·refine az (λ(t:JG×Output) i=>(t.1,t.2,i)) s.Lg.Lm.length (λ_ _=>True) (step:=fj s (c,e0)) (by omega) ?_ ?_ (s:=((⟨⟨[],[]⟩,[],[],[],[],[],0,0,0⟩:JG),(⟨0,[],[],[],0⟩:Output))) trivial
   ·intro k hk t _;unfold fj;dsimp only
    have hk2:k<c.Lm.length:=by omega
    rw[ah hk,cond_true,aC hk2,K_,La hk2,K_,ai hk,K_];refine ae (λ_=>aa (.inr ⟨_,rfl,h⟩)) λ_=>aa (.inl ⟨t,rfl,trivial⟩)
   ·intro t _;unfold fj;dsimp only;rw[am,cond_false];exact aa ⟨_,rfl,trivial⟩
  ·rintro(q | q) hq
   ·exact aa hq
   ·have hal:=h.al
    refine ad (P:=λr=>match r with | .inl q=>Inv N q.1 | .inr _=>∀a∈s.Lv,Mt a=true→Nu c a.Ls=true) ?_ ?_
    ·refine az (λ(t:JG×Output) i=>(t.1,t.2,i)) s.Lv.length (λk _=>∀j (hj:j<s.Lv.length),j<k→Mt s.Lv[j]=true→Nu c s.Lv[j].Ls=true) (step:=eZ s (c,e0)) (by omega) ?_ ?_ (s:=q) (by intro j hj h;omega)
     ·intro k hk t ht;unfold eZ;dsimp only;rw[ah hk,cond_true];refine ad (P:=λb=>b=false→Mt s.Lv[k]=true→Nu c s.Lv[k].Ls=true) ?_ ?_
      ·rw[ai hk,K_,jy,K_]
       refine ae (λ_=>?_) λhf=>aa λ_ ht=>by rw[hf]at ht;cases ht
       rw[K_,uS hc,K_]
       exact aa λhb _=>by simpa using hb
      ·intro b hb;refine ae (λ_=>aa (.inr ⟨_,rfl,h⟩)) λhbf=>aa (.inl ⟨t,rfl,λj hj hjk=>?_⟩);by_cases e:j=k
       ·subst e;exact hb hbf
       ·exact ht j hj (by omega)
     ·intro t ht;unfold eZ;dsimp only;rw[am,cond_false];refine aa ⟨.inr t,rfl,λa ha hl=>?_⟩;obtain⟨j,hj,rfl⟩:=UL ha;exact ht j hj hj hl
    ·rintro(q2 | q2) hq2
     ·exact aa hq2
     ·refine aa ?_
      have hll:(s.Lg.Lm.length:Int)≤c.Lm.length:=by omega
      have adJ:∀x:Ask,NM s.Lg x→NM c x:=λx hx=>⟨by have:=hx.label;omega,hx.size,hx.count⟩
      refine⟨hcf,h.nl,h.ns,λn hn=>?_,h.al,h.Rb,λa ha=>?_,h.cl,h.cs,λk hk=>?_,h.ss,h.sk,h.pl,h.ps,h.pk,h.now,h.ep,h.sq,h.en,apu,h.sd.S9,h.sd.slt,h.sd.Vq,h.sd.fit,h.sd.one⟩
      ·have:=h.nk n hn
       exact⟨this.1,this.2.1,by show n.Ll<(c.Lm.length:Int);omega⟩
      ·have hak:=h.ak a ha
       refine⟨hak.st,hak.user,hak.Lf,λe=>hq2 a ha (by unfold Mt;simpa using e),hak.X9,hak.al,λx hx=>adJ x (hak.ask x hx),hak.gr,hak.ki,hak.to,hak.lo,hak.ap⟩
      ·have:=h.ck k hk
       exact⟨this.size,this.app,by have:=this.label;show 0≤k.Ll∧k.Ll<(c.Lm.length:Int);omega,this.id⟩
end Go.Fx.D
