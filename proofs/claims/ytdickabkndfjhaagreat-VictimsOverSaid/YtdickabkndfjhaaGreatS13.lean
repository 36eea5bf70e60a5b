/-
  The reference manager: what holds of its state after every script. Conditions: none.
-/
import Derived.Test.YtdickabkndfjhaaGreatS12
namespace Go.Fx.D
open Go Go.Fx
set_option linter.unusedVariables false
set_option linter.unusedSimpArgs false
theorem FC{l:List Ask}{p:Int}{x:Ask}(h:V5 l p=some x):x∈l∧x.LA=p:=nr h
theorem FW{N:Nat}(hN:N≤1000000){s:JF}(h:Inv N s){n:LB}(hn:n∈s.Ls)(hup:n.Up=true)(hc:s.Lc.length<200)(hq:s.Seq<1048575)(x:Nv) :
  Gv (ka s n x) λr=>if r.2.2.2=true then Inv (N+1) r.1 else Inv N r.1∧(∀y∈r.1.LG,y.LB≠n.Id)∧r.1.Ls=s.Ls∧r.1.Lc=s.Lc∧r.1.Seq=s.Seq:=by
 have hrel:∀c:Lv,(λr:JF×Int×Lv×Bool=>if r.2.2.2=true then Inv (N+1) r.1 else Inv N r.1∧(∀y∈r.1.LG,y.LB≠n.Id)∧r.1.Ls=s.Ls∧r.1.Lc=s.Lc∧r.1.Seq=s.Seq) (Pn s n.Id,0,c,false):=by
  intro c;dsimp only
  rw[if_neg (by simp)]
  exact⟨h.noSlot _,λy hy=>by have:=(PL.1 hy).2;simpa using this,rfl,rfl,rfl⟩
 unfold ka;rw[co h.z,K8]
 cases ha0:MV s x.LD with
 | none=>
  simp only[Option.elim]
  rw[D2 (by simp[Yi]),K8]
  simp only[Vn,cond_true,K8];rw[qO h.z,K8];exact aa (hrel _)
 | some a=>
  obtain⟨ha,_⟩:=sY ha0;have hak:=h.ak a ha;simp only[Option.elim]
  rw[D2 (by have:=hak.al;omega),K8]
  refine ad (P:=λb=>b=false→Mx a=true∧∃k∈a.Mr,V5 a.Mr x.LA=some k∧aaj k n=true) ?_ ?_
  ·refine ae (λ_=>aa (by simp)) λ_=>?_
   rw[mK,K8]
   refine ae (λ_=>aa (by simp)) λhl=>?_
   have hl:Mx a=true:=by simpa using hl
   cases hk:V5 a.Mr x.LA with
   | none=>exact aa (by simp)
   | some k=>
    have hkm:=(FC hk).1;have hkk:=hak.ask k hkm;simp only[Option.elim,PZ,cond_false];rw[E7,K8]
    refine ae (λ_=>aa (by simp)) λhmy=>?_
    rw[lW,K8]
    refine ae (λ_=>aa (by simp)) λ_=>?_
    rw[FA h.sc (h.R5 ha) hkk.size.vb,K8]
    refine ae (λ_=>aa (by simp)) λ_=>?_
    rw[CN h.sc (h.R5 ha),K8]
    exact aa λ_=>⟨hl,k,hkm,rfl,by simpa using hmy⟩
  ·intro b hb;refine ae (λ_=>?_) λhbf=>?_
   ·rw[qO h.z,K8];exact aa (hrel _)
   ·obtain⟨hl,k,hkm,hk,hmy⟩:=hb hbf;have hkk:=hak.ask k hkm;rw[hk];simp only[Option.elim];refine ad (P:=λq=>q=false→RL k.LV (VP s n.Id)=true) ?_ λq hq2=>?_
    ·rw[BR h.sb,K8,lW,K8,CO h.sc (h.R5 ha) n.Ll hkk.size.vb]
     exact ae (λ_=>aa (by simp)) λhf=>aa λ_=>by simpa using hf
    ·refine ae (λ_=>aa ?_) λhqf=>?_
     ·dsimp only;rw[if_pos rfl]
      exact h.mono (by omega)
     ·rw[qO h.z,K8];have hN':=h.noSlot n.Id
      rw[Bc hN'.z hN'.sq n (by have:=hak.al;omega) (λy hy=>by have:=(hak.ask y hy).count;omega) (by have:=hak.gr;omega) k,K8]
      refine aa ?_;dsimp only;rw[if_pos rfl]
      exact hN'.grant hn hup ha hl hkk (hq2 hqf) hc hq λe=>⟨by rw[← yD hmy];exact(hak.fst e k hkm).1,(hak.fst e k hkm).2⟩
theorem KS{N:Nat}(hN:N≤1000000){s:JF}(h:Inv N s)(i:Int):Gv (kA s i) λr=>Inv (N+1) r.1:=by
 unfold kA;rw[lX h.z,K8]
 cases hn0:mR s i with
 | none=>exact aa (h.mono (by omega))
 | some n=>
  obtain⟨hn,hid⟩:=p7 hn0;simp only[Option.elim,PZ,cond_false];refine ad (P:=λb=>b=false→n.Up=true∧s.Lc.length<200∧s.Seq<1048575) ?_ ?_
  ·refine ae (λ_=>aa (by simp)) λh0=>ae (λ_=>aa (by simp)) λh1=>aa λh2=>?_
   simp only[decide_eq_false_iff_not]at h1 h2
   exact⟨by simpa using h0,by omega,by omega⟩
  ·intro b hb
   refine ae (λ_=>aa (h.mono (by omega))) λhbf=>?_
   obtain⟨hup,hc,hq⟩:=hb hbf;rw[Jo h.z,K8]
   refine ad (P:=λr=>match r with
    | .inl p=>Inv N p.1∧(∀y∈p.1.LG,y.LB≠n.Id)∧n∈p.1.Ls∧p.1.Lc.length<200∧p.1.Seq<1048575
    | .inr q=>Inv (N+1) q.1) ?_ ?_
   ·cases hs:Ap s i with
    | none=>simp only[Option.elim,cond_false];refine aa ⟨h,λy hy e=>?_,hn,hc,hq⟩;have:=qw (id:=λx:Nv=>x.LB) hs y hy;omega
    | some x=>
     simp only[Option.elim,cond_true];refine ad (FW hN h hn hup hc hq x) ?_;rintro r hr;refine ae (λhb=>aa ?_) λhb=>aa ?_
     ·rw[if_pos hb]at hr;exact hr
     ·rw[if_neg (by simp[hb])]at hr
      exact⟨hr.1,hr.2.1,by rw[hr.2.2.1];exact hn,by rw[hr.2.2.2.1];exact hc,by rw[hr.2.2.2.2];exact hq⟩
   ·rintro(p | q) hr
    ·obtain⟨r1,r2,r3,r4,r5⟩:=hr;refine ad (zy hN r1 r3 hup r2 r4 r5 true) ?_;rintro⟨t,k,c⟩ ⟨q0,q1⟩;dsimp only at q0 q1 ⊢
     refine ae (λhz=>aa (q1 (by simpa using hz)).1) λhz=>?_
     obtain⟨u1,u2⟩:=q0 (by simpa using hz)
     refine ad (zy hN u1 (by rw[u2.nd];exact r3) hup (by rw[u2.sl];exact r2) (by rw[u2.cs];exact r4) (by rw[u2.sq];exact r5) false) ?_
     rintro⟨t',k',c'⟩ ⟨w0,w1⟩;refine aa ?_;dsimp only at w0 w1 ⊢;by_cases hk:k'=0
     ·exact(w0 hk).1.mono (by omega)
     ·exact(w1 hk).1
    ·exact aa hr
theorem FM{N:Nat}(hN:N≤900000){s:JF}(h:Inv N s)(i:Int):Gv (jY s i) λr=>Inv (N+3) r.1∧r.2.length≤3:=by
 unfold jY;refine ad (P:=λr=>Inv (N+3) r.1∧r.2.length≤3) ?_ λr hr=>aa hr
 refine ay (λ(p:JF×List Lv) i=>(p.1,p.2,i)) 3 (λk p=>Inv (N+k) p.1∧p.2.length≤k) (step:=gj i) (by omega) ?_ ?_ (s:=(s,[])) ⟨h,by simp⟩
 ·rintro k hk p ⟨hp,hl⟩;unfold gj;dsimp only
  rw[show decide ((k:Int)<3)=true from decide_eq_true (by omega),cond_true]
  refine ad (KS (by omega) hp i) ?_
  rintro⟨t,kd,c⟩ hr;dsimp only at hr ⊢
  refine ae (λ_=>aa (.inr ⟨_,rfl,hr.mono (by omega),by dsimp only;omega⟩)) λ_=>?_
  rw[aj (by simp;omega) (by omega),K8]
  exact aa (.inl ⟨(t,p.2++[c]),rfl,hr,by simp;omega⟩)
 ·rintro p ⟨hp,hl⟩;unfold gj;dsimp only;exact aa ⟨_,rfl,hp,hl⟩
theorem Jr{N:Nat}(hN:N≤800000){s:JF}(h:Inv N s)(x:Input)(hx:x.Ids.length≤1000):Gv (j7 s x) λr=>Inv (N+1003) r.1:=by
 unfold j7;rw[lX h.z,K8];refine ad (P:=λ_=>True) ?_ λq _=>?_
 ·repeat' (first | exact⟨_,rfl,trivial⟩ | refine ae (λ_=>?_) (λ_=>?_))
 refine ae (λ_=>?_) λ_=>?_
 ·rw[C2 h.z,K8]
  exact aa (h.mono (by omega))
 refine ad (Iz h _ _) λr hr=>?_;refine ae (λ_=>aa (h.mono (Nat.le_add_right _ _))) λ_=>?_;refine ad (P:=λl=>l.length≤x.Ids.length) ?_ λids Oc=>?_
 ·refine ay (λ(l:List Int) i=>(l,i)) x.Ids.length (λk l=>l.length≤k) (step:=gz x r) (by omega) ?_ ?_ (s:=[]) (by simp)
  ·intro k hk l hl;unfold gz;dsimp only;rw[ah hk,cond_true];refine ad (P:=λm=>m.length≤k+1) ?_ λm hm=>aa (.inl ⟨m,rfl,hm⟩);rw[ai hk,K8,dR hr.z,K8];refine ad (P:=λ_=>True) ?_ λq _=>?_
   ·repeat' (first | exact⟨_,rfl,trivial⟩ | refine ae (λ_=>?_) (λ_=>?_))
   refine ae (λ_=>?_) λ_=>aa (by omega)
   rw[aj (by simp;omega) (by omega),K8]
   exact aa (by simp;omega)
  ·intro l hl;unfold gz;rw[ar];exact aa ⟨l,rfl,hl⟩
 refine ad (xx hr (ids:=ids) (by omega)) λt ht=>?_
 refine ad (FM (by omega) ht x.Id) λu hu=>?_
 rw[C2 hu.1.z,K8]
 exact aa (hu.1.mono (by omega))
theorem D3(x:Ask)(c:Lf):Gv (j9 x (c.Lp.length:Int)) λe=>e=0→(0≤x.Ll∧x.Ll<c.Lp.length)∧RB x.LV∧0≤x.Mw∧x.Mw≤50:=by
 have p9:∀n:Int,ky n=some (decide (1≤n)&&decide (n≤1073741824)):=λn=>tB n;unfold j9;refine ad (P:=λb=>b=false→(0≤x.Ll∧x.Ll<c.Lp.length)∧RB x.LV) ?_ ?_
 ·refine ae (λ_=>aa (by simp)) λ_=>ae (λ_=>aa (by simp)) λ_=>ae (λ_=>aa (by simp)) λh1=>ae (λ_=>aa (by simp)) λh2=>?_
  rw[p9,K8]
  refine ae (λ_=>aa (by simp)) λh3=>?_
  rw[p9,K8]
  refine ae (λ_=>aa (by simp)) λh4=>?_
  simp only[decide_eq_false_iff_not,QdU,Np,decide_eq_true_eq]at h1 h2 h3 h4
  refine mH (P:=λ_=>True) ?_ λb _ _=>⟨by omega,h3,h4⟩
  repeat' (first | exact⟨_,rfl,trivial⟩ | refine ae (λ_=>?_) (λ_=>?_))
 ·intro b hb
  refine ae (λ_=>aa (by simp)) λhbf=>?_
  obtain⟨h1,h2⟩:=hb hbf;refine ad (P:=λb=>b=false→0≤x.Mw∧x.Mw≤50) ?_ ?_
  ·refine ae (λ_=>aa (by simp)) λh3=>aa λh4=>?_
   simp only[decide_eq_false_iff_not]at h3 h4;omega
  ·intro b2 hb2
   refine ae (λ_=>aa (by simp)) λhf=>aa λ_=>⟨h1,h2,hb2 hf⟩
theorem KO{c:Lf}{l:List Ask}(hl:l.length≤1000)(hk:∀x∈l,NI c x)(hs:l.Pairwise λx y=>x.LA<y.LA){a:Ask}(h1:0≤a.Ll∧a.Ll<c.Lp.length)(h2:RB a.LV)(h3:0≤a.Mw∧a.Mw≤50) :
  Gv (lk l a) λr=>r.1.length≤8∧(∀x∈r.1,NI c x)∧r.1.Pairwise λx y=>x.LA<y.LA:=by
 have hnew:a.Mw≠0→NI c ⟨a.LA,a.Ll,⟨a.LV.Mem,a.LV.Lu⟩,a.Mw,a.LB,a.Oj,0⟩:=λhc=>⟨h1,h2,by dsimp only;omega⟩
 unfold lk;refine ad (P:=λt=>t.1.length≤2*l.length∧(∀x∈t.1,NI c x)∧(t.2=false→a.Mw≠0)∧t.1.Pairwise (λx y=>x.LA<y.LA)∧(t.2=false→∀x∈t.1,x.LA<a.LA)) ?_ ?_
 ·refine ay (λ(t:List Ask×Bool) i=>(t.1,t.2,i)) l.length (λk t=>t.1.length≤2*k∧(∀x∈t.1,NI c x)∧(t.2=false→a.Mw≠0)∧t.1.Pairwise (λx y=>x.LA<y.LA)∧(t.2=false→∀x∈t.1,x.LA<a.LA)∧∀x∈t.1,∀y∈l.drop k,x.LA<y.LA) (step:=jx l a) (by omega) ?_ ?_ (s:=([],a.Mw == 0)) ⟨by simp,by simp,by simp,by simp,by simp,by simp⟩
  ·rintro k hkk ⟨m,d⟩ ⟨q1,q2,q3,q4,q5,q6⟩;dsimp only at q1 q2 q3 q4 q5 q6 ⊢;have hd:=Ww hkk
   have hsd:(l[k]::l.drop (k+1)).Pairwise λx y=>x.LA<y.LA:=by rw[← hd];exact hs.sublist (List.drop_sublist k l)
   have hafter:=(SV.1 hsd).1;unfold jx;dsimp only;rw[ah hkk,cond_true];refine ad (P:=λt=>t.1.length≤2*(k+1)∧(∀x∈t.1,NI c x)∧(t.2=false→a.Mw≠0)∧t.1.Pairwise (λx y=>x.LA<y.LA)∧(t.2=false→∀x∈t.1,x.LA<a.LA)∧∀x∈t.1,∀y∈l.drop (k+1),x.LA<y.LA) ?_ λt ht=>aa (.inl ⟨t,rfl,ht⟩);refine ad (P:=λt=>t.1.length≤2*k+1∧(∀x∈t.1,NI c x)∧(t.2=false→a.Mw≠0)∧t.1.Pairwise (λx y=>x.LA<y.LA)∧(t.2=false→(∀x∈t.1,x.LA<a.LA)∧l[k].LA≤a.LA)∧∀x∈t.1,∀y∈l.drop k,x.LA<y.LA) ?_ ?_
   ·refine ad (P:=λb=>(b=true→d=false∧a.LA<l[k].LA)∧(b=false→d=false→l[k].LA≤a.LA)) ?_ ?_
    ·refine ae (λhd=>?_) λhd=>aa ⟨by simp,λ_ e=>by rw[e]at hd;simp at hd⟩
     rw[ai hkk,K8]
     refine aa ⟨λe=>⟨by simpa using hd,by simpa using e⟩,λe _=>?_⟩
     simp only[gt_iff_lt,decide_eq_false_iff_not]at e;omega
    ·intro b hb
     refine ae (λhbt=>?_) λhbf=>aa ⟨by dsimp only;omega,q2,q3,q4,λe=>⟨q5 e,hb.2 hbf e⟩,q6⟩
     obtain⟨hdf,hlt⟩:=hb.1 hbt
     rw[aj (by simp;omega) (by omega),K8]
     refine aa ⟨by simp;omega,λx hx=>?_,by simp,?_,by simp,?_⟩
     ·rcases OB.1 hx with hx | hx
      ·exact q2 x hx
      ·rw[Lb]at hx;subst hx;exact hnew (q3 hdf)
     ·refine QdN.2 ⟨q4,by simp,λx hx y hy=>?_⟩
      rw[Lb]at hy;subst hy;exact q5 hdf x hx
     ·intro x hx y hy;rcases OB.1 hx with hx | hx
      ·exact q6 x hx y hy
      ·rw[Lb]at hx;subst hx;rw[hd]at hy;rcases Nz.1 hy with rfl | hy
       ·exact hlt
       ·exact Int.lt_trans hlt (hafter y hy)
   ·rintro⟨m2,d2⟩ ⟨p1,p2,p3,p4,p5,p6⟩;dsimp only at p1 p2 p3 p4 p5 p6 ⊢
    have p6':∀x∈m2,∀y∈l.drop (k+1),x.LA<y.LA:=λx hx y hy=>p6 x hx y (by rw[hd];exact Uh _ hy)
    rw[ai hkk,K8]
    refine ae (λhne=>?_) λ_=>aa ⟨by dsimp only;omega,p2,p3,p4,λe=>(p5 e).1,p6'⟩
    have hne:l[k].LA≠a.LA:=by simpa using hne
    rw[K8,aj (by simp;omega) (by omega),K8]
    refine aa ⟨by simp;omega,λx hx=>?_,p3,?_,?_,?_⟩
    ·rcases OB.1 hx with hx | hx
     ·exact p2 x hx
     ·rw[Lb]at hx;subst hx;exact hk _ (NQ hkk)
    ·refine QdN.2 ⟨p4,by simp,λx hx y hy=>?_⟩
     rw[Lb]at hy;subst hy
     exact p6 x hx _ (by rw[hd];exact ZT)
    ·intro e x hx;rcases OB.1 hx with hx | hx
     ·exact(p5 e).1 x hx
     ·rw[Lb]at hx;subst hx;have:=(p5 e).2;omega
    ·intro x hx y hy;rcases OB.1 hx with hx | hx
     ·exact p6' x hx y hy
     ·rw[Lb]at hx;subst hx;exact hafter y hy
  ·rintro t ⟨r1,r2,r3,r4,r5,r6⟩;unfold jx;dsimp only;rw[ar,cond_false];exact aa ⟨t,rfl,r1,r2,r3,r4,r5⟩
 ·rintro⟨m,d⟩ ⟨q1,q2,q3,q4,q5⟩;dsimp only at q1 q2 q3 q4 q5 ⊢;refine ad (P:=λm=>(∀x∈m,NI c x)∧m.Pairwise λx y=>x.LA<y.LA) ?_ ?_
  ·refine ae (λhd=>?_) λ_=>aa ⟨q2,q4⟩
   have hdf:d=false:=by simpa using hd
   rw[aj (by simp;omega) (by omega),K8]
   refine aa ⟨λx hx=>?_,?_⟩
   ·rcases OB.1 hx with hx | hx
    ·exact q2 x hx
    ·rw[Lb]at hx;subst hx;exact hnew (q3 hdf)
   ·refine QdN.2 ⟨q4,by simp,λx hx y hy=>?_⟩
    rw[Lb]at hy;subst hy;exact q5 hdf x hx
  ·intro m2 hm2
   refine ae (λ_=>aa ⟨by simp,by simp,by simp⟩) λhlen=>aa ⟨?_,hm2.1,hm2.2⟩
   simp only[decide_eq_false_iff_not]at hlen;dsimp only;omega
theorem ID{s:JF}{l:List Ask}(hl:l.length≤8)(hk:∀x∈l,NI s.Lf x)(hs:l.Pairwise λx y=>x.LA<y.LA){more:List Ask}(hm:more.length≤1000):Gv (jq s l more) λr=>r.1.length≤8∧(∀x∈r.1,NI s.Lf x)∧r.1.Pairwise λx y=>x.LA<y.LA:=by
 unfold jq
 refine ad (P:=λr=>match r with | .inl q=>q.1.length≤8∧(∀x∈q.1,NI s.Lf x)∧q.1.Pairwise (λx y=>x.LA<y.LA) | .inr q=>q.length≤8∧(∀x∈q,NI s.Lf x)∧q.Pairwise λx y=>x.LA<y.LA) ?_ ?_
 ·refine ay (λ(l:List Ask) i=>(l,i)) more.length (λ_ l=>l.length≤8∧(∀x∈l,NI s.Lf x)∧l.Pairwise λx y=>x.LA<y.LA) (step:=fK s more) (by omega) ?_ ?_ (s:=l) ⟨hl,hk,hs⟩
  ·rintro k hkk l ⟨q1,q2,q3⟩;unfold fK;dsimp only;rw[ah hkk,cond_true,ai hkk,K8];refine ad (D3 more[k] s.Lf) λe he=>?_
   refine ae (λ_=>aa (.inr ⟨_,rfl,by simp⟩)) λhe0=>?_
   obtain⟨c1,c2,c3⟩:=he (by simpa using he0)
   rw[K8]
   refine ad (KO (by omega) q2 q3 c1 c2 c3) λr hr=>?_
   refine ae (λ_=>aa (.inr ⟨_,rfl,by simp⟩)) λ_=>aa (.inl ⟨r.1,rfl,hr⟩)
  ·intro l hl;unfold fK;rw[ar];exact aa ⟨.inr l,rfl,hl⟩
 ·rintro(q | q) hq
  ·exact aa hq
  ·exact aa hq
theorem zk{s:JF}(h:M_ s){ids:List Int}(hi:ids.length≤1000000):Gv (fe s ids) λ_=>True:=by
 unfold fe;refine ad (P:=λ_=>True) ?_ λ_ _=>aa trivial
 refine ay (λ(l:List Lv) i=>(l,i)) ids.length (λk l=>l.length≤k) (step:=fw s ids) (by omega) ?_ ?_ (s:=[]) (by simp)
 ·intro k hk l hl;unfold fw;dsimp only;rw[ah hk,cond_true,ai hk,K8,dR h,K8];refine ad (P:=λm=>m.length≤k+1) ?_ λm hm=>aa (.inl ⟨m,rfl,hm⟩)
  refine ae (λ_=>?_) λ_=>aa (by omega)
  rw[aj (by simp;omega) (by omega),K8]
  exact aa (by simp;omega)
 ·intro l hl;unfold fw;rw[ar];exact aa ⟨l,rfl,trivial⟩
theorem vZ{s:JF}(h:M_ s)(i:Int):Gv (du s i) λ_=>True:=by
 have hn:=h.c;unfold du;refine ad (P:=λ_=>True) ?_ λ_ _=>aa trivial
 refine ay (λ(l:List Int) i=>(l,i)) s.Lc.length (λk l=>l.length≤k) (step:=dX s i) (by omega) ?_ ?_ (s:=[]) (by simp)
 ·intro k hk l hl;unfold dX;dsimp only;rw[ah hk,cond_true,ai hk,K8,K8];refine ad (P:=λm=>m.length≤k+1) ?_ λm hm=>aa (.inl ⟨m,rfl,hm⟩);refine ad (P:=λ_=>True) ?_ λq _=>?_
  ·repeat' (first | exact⟨_,rfl,trivial⟩ | refine ae (λ_=>?_) (λ_=>?_))
  refine ae (λ_=>?_) λ_=>aa (by omega)
  rw[K8,aj (by simp;omega) (by omega),K8]
  exact aa (by simp;omega)
 ·intro l hl;unfold dX;rw[ar];exact aa ⟨l,rfl,trivial⟩
theorem D5{N:Nat}(hN:N≤900000){s:JF}(h:Inv N s)(x:Input)(hi:x.Ids.length≤1000)(hx:x.Mr.length≤1000):Gv (iw s x) λr=>Inv N r.1:=by
 unfold iw;rw[co h.z,K8]
 cases ha0:MV s x.Id with
 | none=>exact aa h
 | some a=>
  obtain⟨ha,_⟩:=sY ha0;have hak:=h.ak a ha;simp only[Option.elim,PZ,cond_false];refine ae (λ_=>aa h) λhst=>ae (λ_=>aa h) λ_=>ae (λ_=>?_) λ_=>ae (λ_=>aa h) λ_=>?_
  ·refine ad (zk h.z (by have:=hak.to;omega)) λ_ _=>ad (vZ h.z _) λ_ _=>?_
   rw[aj (by have:=hak.lo;simp;omega) (by omega),K8]
   exact aa h
  ·have hst:a.JF=2:=by simpa using hst
   refine ad (ID hak.al hak.ask hak.ap hx) λr hr=>?_;refine ae (λ_=>aa h) λ_=>?_;refine ad (P:=λt=>Inv N t.1∧t.1.Lf=s.Lf∧t.1.Lr=s.Lr∧Pw N s.Lf t.2∧t.2.Id=a.Id∧t.2.JF=2∧t.2.Lj.Mem=a.Lj.Mem) ?_ ?_
   ·refine ay (λ(t:JF×LD) i=>(t.1,t.2,i)) x.Ids.length (λ_ t=>Inv N t.1∧t.1.Lf=s.Lf∧t.1.Lr=s.Lr∧Pw N s.Lf t.2∧t.2.Id=a.Id∧t.2.JF=2∧t.2.Lj.Mem=a.Lj.Mem) (step:=eQ x) (by omega) ?_ ?_ (s:=(s,a)) ⟨h,rfl,rfl,hak,rfl,hst,rfl⟩
    ·rintro k hk ⟨t,b⟩ ⟨q1,q2,q3,q4,q5,q6⟩;dsimp only at q1 q2 q3 q4 q5 q6 ⊢;unfold eQ;dsimp only;rw[ah hk,cond_true];refine ad (P:=λt=>Inv N t.1∧t.1.Lf=s.Lf∧t.1.Lr=s.Lr∧Pw N s.Lf t.2∧t.2.Id=a.Id∧t.2.JF=2∧t.2.Lj.Mem=a.Lj.Mem) ?_ λt ht=>aa (.inl ⟨t,rfl,ht⟩);rw[ai hk,K8,dR q1.z,K8];refine ad (P:=λq=>q=true→∀c∈t.Lc,c.Id=((bJ t x.Ids[k]).elim (noC,false) λx=>(x,true)).1.Id→c.Lj=false) ?_ λq hqq=>?_
     ·cases hct:bJ t x.Ids[k]with
      | none=>exact ae (λe=>by cases e) λ_=>aa (by simp)
      | some d=>
       refine ae (λ_=>ae (λ_=>aa λe c hc e2=>?_) λ_=>aa (by simp)) λ_=>aa (by simp)
       have:=eL (id:=λx:Lv=>x.Id) q1.cs hc (iH hct).1 e2;subst this;simpa using e
     refine ae (λhqt=>?_) λ_=>aa ⟨q1,q2,q3,q4,q5,q6⟩
     rw[xh q1.z,K8,rP (by have:=q4.gr;omega),K8]
     refine aa ⟨q1.away _ (hqq hqt),q2,q3,⟨q4.st,q4.user,q4.Ld,q4.leaf,q4.R6,q4.al,q4.ask,Rb (Um _ _) q4.gr,q4.ki,q4.to,q4.lo,q4.ap,q4.fst⟩,q5,q6⟩
    ·intro t ht;unfold eQ;dsimp only;rw[ar,cond_false];exact aa ⟨t,rfl,ht⟩
   ·rintro⟨t,b⟩ ⟨q1,q2,q3,q4,q5,q6⟩;dsimp only at q1 q2 q3 q4 q5 q6 ⊢
    refine ad (zk q1.z (by have:=q4.gr;omega)) λ_ _=>ad (vZ q1.z _) λ_ _=>?_
    rw[aj (by have:=q4.ki;simp;omega) (by omega),K8,nI q1.z,K8]
    refine aa (q1.aai ⟨a,by rw[q3];exact ha,q5.symm,λ_=>⟨hst,q6.2.symm⟩⟩ ?_ ⟨by simp,by simp⟩ (.inl q6.1))
    rw[q2]
    exact⟨q4.st,q4.user,q4.Ld,q4.leaf,q4.R6,hr.1,hr.2.1,by simp,by simp,q4.gr,q4.ki,hr.2.2,λe=>by have e:b.JF=1:=e;omega⟩
theorem E5{N:Nat}{s:JF}(h:Inv N s)(text:Str)(h45:∀b∈text,b≠45):Gv (iv s text) λr=>Inv N r.1:=by
 unfold iv;refine ad (GN text) ?_;rintro⟨c,e0⟩ ⟨hc,hcl,hcn⟩;dsimp only at hc hcl hcn ⊢;refine ad (P:=λe=>e=0→Nj c∧bH c=some 0) ?_ ?_
 ·refine ae (λ_=>?_) λhe=>aa λe=>?_
  ·refine ad (P:=λe=>e=0→Nj c∧bH c=some 0) ?_ λe he=>aa he;obtain⟨e,e1,e2⟩:=Gk hc hcl λq hq b hb=>h45 b (hcn q hq b hb)
   exact⟨e,e1,λe3=>⟨e2 e3,by rw[e1,e3]⟩⟩
  ·subst e;simp at he
 ·intro e he;refine ae (λ_=>aa h) λhe0=>?_
  obtain⟨hcf,apf⟩:=he (by simpa using he0)
  refine ae (λ_=>aa h) λhlen=>?_;simp only[decide_eq_false_iff_not]at hlen;have hlb:=h.cf.lab
  refine ad (P:=λr=>match r with | .inl q=>Inv N q.1 | .inr _=>True) ?_ ?_
  ·refine ay (λ(t:JF×Output) i=>(t.1,t.2,i)) s.Lf.Lp.length (λ_ _=>True) (step:=eT s (c,e0)) (by omega) ?_ ?_ (s:=((⟨⟨[],[]⟩,[],[],[],[],[],0,0,0⟩:JF),(⟨0,[],[],[],0⟩:Output))) trivial
   ·intro k hk t _;unfold eT;dsimp only
    have hk2:k<c.Lp.length:=by omega
    rw[ah hk,cond_true,aC hk2,K8,K9 hk2,K8,ai hk,K8];refine ae (λ_=>aa (.inr ⟨_,rfl,h⟩)) λ_=>aa (.inl ⟨t,rfl,trivial⟩)
   ·intro t _;unfold eT;dsimp only;rw[ar,cond_false];exact aa ⟨_,rfl,trivial⟩
  ·rintro(q | q) hq
   ·exact aa hq
   ·have hal:=h.al
    refine ad (P:=λr=>match r with | .inl q=>Inv N q.1 | .inr _=>∀a∈s.Lr,Mx a=true→Nq c a.Lm=true) ?_ ?_
    ·refine ay (λ(t:JF×Output) i=>(t.1,t.2,i)) s.Lr.length (λk _=>∀j (hj:j<s.Lr.length),j<k→Mx s.Lr[j]=true→Nq c s.Lr[j].Lm=true) (step:=eR s (c,e0)) (by omega) ?_ ?_ (s:=q) (by intro j hj h;omega)
     ·intro k hk t ht;unfold eR;dsimp only;rw[ah hk,cond_true];refine ad (P:=λb=>b=false→Mx s.Lr[k]=true→Nq c s.Lr[k].Lm=true) ?_ ?_
      ·rw[ai hk,K8,mK,K8]
       refine ae (λ_=>?_) λhf=>aa λ_ ht=>by rw[hf]at ht;cases ht
       rw[K8,wR hc,K8]
       exact aa λhb _=>by simpa using hb
      ·intro b hb;refine ae (λ_=>aa (.inr ⟨_,rfl,h⟩)) λhbf=>aa (.inl ⟨t,rfl,λj hj hjk=>?_⟩);by_cases e:j=k
       ·subst e;exact hb hbf
       ·exact ht j hj (by omega)
     ·intro t ht;unfold eR;dsimp only;rw[ar,cond_false];refine aa ⟨.inr t,rfl,λa ha hl=>?_⟩;obtain⟨j,hj,rfl⟩:=Ul ha;exact ht j hj hj hl
    ·rintro(q2 | q2) hq2
     ·exact aa hq2
     ·refine aa ?_
      have hll:(s.Lf.Lp.length:Int)≤c.Lp.length:=by omega
      have adr:∀x:Ask,NI s.Lf x→NI c x:=λx hx=>⟨by have:=hx.label;omega,hx.size,hx.count⟩
      refine⟨hcf,h.nl,h.ns,λn hn=>?_,h.al,h.Px,λa ha=>?_,h.cl,h.cs,λk hk=>?_,h.ss,h.sk,h.pl,h.ps,h.pk,h.now,h.ep,h.sq,h.en,apf,h.sd.Ta,h.sd.slt,h.sd.Vr,h.sd.fit,h.sd.one⟩
      ·have:=h.nk n hn
       exact⟨this.1,this.2.1,by show n.Ll<(c.Lp.length:Int);omega⟩
      ·have hak:=h.ak a ha
       refine⟨hak.st,hak.user,hak.Ld,λe=>hq2 a ha (by unfold Mx;simpa using e),hak.R6,hak.al,λx hx=>adr x (hak.ask x hx),hak.gr,hak.ki,hak.to,hak.lo,hak.ap,hak.fst⟩
      ·have:=h.ck k hk
       exact⟨this.size,this.app,by have:=this.label;show 0≤k.Ll∧k.Ll<(c.Lp.length:Int);omega,this.id,this.R6⟩
end Go.Fx.D
