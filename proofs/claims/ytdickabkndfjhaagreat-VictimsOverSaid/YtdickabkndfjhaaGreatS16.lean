/-
  The reference manager: what holds of its state after every script. Conditions: none.
-/
import Derived.Test.YtdickabkndfjhaaGreatS15
namespace Go.Fx.D
open Go Go.Fx
set_option linter.unusedVariables false
set_option linter.unusedSimpArgs false
def strip(c:Lv):Lv:=⟨c.Id,c.LD,c.LB,c.LV,c.LA,c.Ll,c.Lj,0⟩
theorem MI.V4{N:Nat}{s:JF}(h:MI ZN N s){cs:List Lv}(e:cs.map strip=s.Lc.map strip)(hn:∀c∈cs,0≤c.ME∧c.ME≤imax s.Now 1):Inv N ⟨s.Lf,s.Ls,s.Lr,cs,s.LG,s.LU,s.Now,s.L9,s.Seq⟩:=by
 have hl:cs.length=s.Lc.length:=by simpa using congrArg List.length e
 have hin:∀c∈cs,∃d∈s.Lc,strip d=strip c:=λc hc=>by
  have hm:strip c∈s.Lc.map strip:=by rw[← e];exact QdX hc
  exact Ra.1 hm
 have hfi:∀(i:Int)(l:List Lv),(l.filter λc=>c.LB == i).map (·.LV)=((l.map strip).filter λc=>c.LB == i).map (·.LV):=λi l=>by rw[List.filter_map,Yy];rfl
 have hma:∀(i:Int)(l:List Lv),(Rx l i).length=(Rx (l.map strip) i).length:=λi l=>by unfold Rx;rw[List.filter_map,Py];rfl
 refine⟨h.cf,h.nl,h.ns,h.nk,h.al,h.Px,h.ak,by show cs.length≤200;rw[hl];exact h.cl,?_,λc hc=>?_,h.ss,h.sk,h.pl,h.ps,h.pk,h.now,h.ep,h.sq,h.en,h.sd.Xv,λc hc=>?_,h.sd.slt,hn,λn hn=>?_,λa ha e2=>?_⟩
 ·have h1:(s.Lc.map strip).Pairwise λx y=>x.Id<y.Id:=QfW.2 h.cs;rw[← e]at h1;exact(QfW (f:=strip) (R:=λx y:Lv=>x.Id<y.Id)).1 h1
 ·have hm:strip c∈s.Lc.map strip:=by rw[← e];exact QdX hc
  obtain⟨c',hc',ec⟩:=Ra.1 hm;have:=h.ck c' hc';unfold strip at ec
  injection ec with e1 e2 e3 e4 e5 e6 e7
  refine⟨by rw[← e4];exact this.size,?_,by rw[← e6];exact this.label,by rw[← e1];exact this.id,λem=>by
   have h7:=this.R6 (by rw[e7];exact em)
   rw[← e6,← e4,← e2];exact h7⟩
  rw[← e2];exact this.app
 ·obtain⟨d,hd,ed⟩:=hin c hc;unfold strip at ed
  injection ed with e1 e2 e3 e4 e5 e6 e7
  rw[← e3,← e6];exact h.sd.Ta d hd
 ·have:=h.sd.fit n hn;unfold jd at this ⊢;rw[hfi]at this;dsimp only;rw[hfi,e];exact this
 ·rcases h.sd.one a ha e2 with e3 | e3
  ·exact .inl e3
  ·rw[hma]at e3;refine .inr ?_;show(Rx cs a.Id).length=1;rw[hma,e];exact e3
theorem xm{N:Nat}{s:JF}(h:Inv N s)(i t:Int)(ht:0≤t∧t≤imax s.Now 1):Gv (cw s i t) λu=>Inv N u∧u.Now=s.Now:=by
 have hcl:=h.cl;unfold cw
 rw[aj (by simp;omega) (by omega),K8,PE]
 refine ad (P:=λl=>l.map strip=s.Lc.map strip∧∀c∈l,0≤c.ME∧c.ME≤imax s.Now 1) ?_ λl hl=>aa ⟨h.V4 hl.1 hl.2,rfl⟩
 refine ay (λ(l:List Lv) i=>(l,i)) s.Lc.length (λ_ l=>l.map strip=s.Lc.map strip∧∀c∈l,0≤c.ME∧c.ME≤imax s.Now 1) (step:=bT i t) (by omega) ?_ ?_ (s:=s.Lc) ⟨rfl,h.sd.Vr⟩
 ·rintro k hk l ⟨hl,hno⟩
  have hll:l.length=s.Lc.length:=by simpa using congrArg List.length hl
  have hkl:k<l.length:=by omega
  unfold bT;dsimp only;rw[hll,ah hk,cond_true];refine ad (P:=λm=>m.map strip=s.Lc.map strip∧∀c∈m,0≤c.ME∧c.ME≤imax s.Now 1) ?_ λm hm=>aa (.inl ⟨m,rfl,hm⟩);rw[← hll];simp only[aC hkl,K8,K9 hkl];refine ae (λ_=>aa ⟨?_,λc hc=>?_⟩) λ_=>aa ⟨hl,hno⟩
  ·rw[← hl,List.map_set]
   have e:strip ⟨l[k].Id,l[k].LD,l[k].LB,⟨l[k].LV.Mem,l[k].LV.Lu⟩,l[k].LA,l[k].Ll,l[k].Lj,t⟩=(l.map strip)[k]'(by simpa using hkl):=by simp[strip]
   rw[e,List.set_getElem_self]
  ·rcases QfE hc with hc | rfl
   ·exact hno c hc
   ·exact ht
 ·rintro l ⟨hl,hno⟩
  have hll:l.length=s.Lc.length:=by simpa using congrArg List.length hl
  unfold bT;dsimp only;rw[hll,ar];exact aa ⟨l,rfl,hl,hno⟩
def kT(s:JF)(c:Lv):Str:=(MV s c.LD).elim [] (·.Lm)
theorem qU{s:JF}(h:M_ s)(c:Lv):cB s c=some (kT s c):=by
 unfold cB kT;rw[co h,K8]
 cases MV s c.LD<;>rfl
theorem Em{N:Nat}{s:JF}(h:Inv N s)(c:Lv):Gv (cK s c) λ_=>True:=by
 have hcl:=h.cl;unfold cK;refine ad (P:=λ_=>True) ?_ λ_ _=>aa trivial
 refine ay (λ(n:Int) i=>(n,i)) s.Lc.length (λ_ _=>True) (step:=bg s c) (by omega) ?_ ?_ (s:=0) trivial
 ·intro k hk n _;unfold bg;dsimp only;rw[ah hk,cond_true,K8];refine ae (λ_=>?_) λ_=>aa (.inr ⟨_,rfl,trivial⟩);refine ad (P:=λ_=>True) ?_ λn _=>aa (.inl ⟨n,rfl,trivial⟩);simp only[ai hk,K8];refine ad (P:=λ_=>True) ?_ λq _=>?_
  ·repeat' (first | exact⟨_,rfl,trivial⟩ | refine ae (λ_=>?_) (λ_=>?_))
  ·repeat' (first | exact⟨_,rfl,trivial⟩ | refine ae (λ_=>?_) (λ_=>?_))
 ·intro n _;unfold bg;dsimp only;rw[ar];exact aa ⟨_,rfl,trivial⟩
def pIn(l:List Int)(n:Int):Bool:=l.contains n
theorem BS{l:List Int}(hl:l.length≤100000)(n:Int):fm l n=some (pIn l n):=by
 unfold fm
 have e:=eJ (λi=>i) l (λx=>x == n) (λ_=>(.inl true:Bool ⊕ Unit)) (.inr ()) (step:=fa l n) (by omega) ?_ ?_ ?_
 ·rw[e];unfold pIn
  cases hf:l.find? λx=>x == n with
  | none=>
   have:l.contains n=false:=by rw[List.contains_eq_any_beq,List.any_eq_false];intro x hx;have:=ZR.1 hf x hx;simp only[beq_iff_eq]at this ⊢;exactλe=>this e.symm
   rw[this];rfl
  | some x=>
   have h1:=QdS hf;have h2:=QfS hf
   have:l.contains n=true:=by rw[List.contains_eq_any_beq,List.any_eq_true];simp only[beq_iff_eq]at h2 ⊢;exact⟨x,h1,h2.symm⟩
   rw[this];rfl
 ·intro k hk hp;unfold fa;rw[ah hk,cond_true,ai hk,K8,hp];rfl
 ·intro k hk hp;unfold fa;rw[ah hk,cond_true,ai hk,K8,hp];rfl
 ·unfold fa;rw[ar];rfl
theorem ya{N:Nat}{s:JF}(h:Inv N s)(Ld:Str)(label:Int){l:List Int}(hl:l.length≤100000):Gv (ez s Ld label l) λ_=>True:=by
 have hcl:=h.cl;unfold ez;refine ad (P:=λ_=>True) ?_ λ_ _=>aa trivial
 refine ay (λ(n:Int) i=>(n,i)) s.Lc.length (λ_ _=>True) (step:=eP s Ld label l) (by omega) ?_ ?_ (s:=0) trivial
 ·intro k hk n _;unfold eP;dsimp only;rw[ah hk,cond_true];refine ad (P:=λ_=>True) ?_ λn _=>aa (.inl ⟨n,rfl,trivial⟩);rw[ai hk,K8,BS hl,qU h.z];refine ad (P:=λ_=>True) ?_ λq _=>?_
  ·simp only[K8]
   repeat' (first | exact⟨_,rfl,trivial⟩ | refine ae (λ_=>?_) (λ_=>?_))
  ·repeat' (first | exact⟨_,rfl,trivial⟩ | refine ae (λ_=>?_) (λ_=>?_))
 ·intro n _;unfold eP;dsimp only;rw[ar];exact aa ⟨_,rfl,trivial⟩
theorem Fm{N:Nat}{s:JF}(h:Inv N s)(Ld:Str)(label:Int){l:List Int}(hl:l.length≤100000):Gv (iM s Ld label l) λr=>r.2=true→r.1∈s.Lc∧r.1.Id∉l:=by
 have hcl:=h.cl;unfold iM;refine ad (P:=λr=>r.2=true→r.1∈s.Lc∧r.1.Id∉l) ?_ λ_ hr=>aa hr
 refine ay (λ(t:Lv×Bool) i=>(t.1,t.2,i)) s.Lc.length (λ_ r=>r.2=true→r.1∈s.Lc∧r.1.Id∉l) (step:=eO s Ld label l) (by omega) ?_ ?_ (s:=((⟨0,0,0,⟨0,0⟩,0,0,false,0⟩:Lv),false)) (by simp)
 ·intro k hk t ht;unfold eO;dsimp only;rw[ah hk,cond_true];refine ad (P:=λr=>r.2=true→r.1∈s.Lc∧r.1.Id∉l) ?_ λr hr=>aa (.inl ⟨r,rfl,hr⟩);rw[ai hk,K8,BS hl,qU h.z];refine ad (P:=λb=>b=false→s.Lc[k].Id∉l) ?_ λq hq=>?_
  ·simp only[K8]
   refine ae (λ_=>aa (by simp)) λ_=>ae (λ_=>aa (by simp)) λ_=>ae (λ_=>aa (by simp)) λ_=>aa λhb=>?_
   unfold pIn at hb;intro hm;rw[Yp.2 hm]at hb;cases hb
  ·refine ae (λ_=>aa ht) λhqf=>?_;refine ad (P:=λ_=>True) ?_ λq1 _=>?_
   ·repeat' (first | exact⟨_,rfl,trivial⟩ | refine ae (λ_=>?_) (λ_=>?_))
   ·exact ae (λ_=>aa λ_=>⟨NQ hk,hq hqf⟩) λ_=>aa ht
 ·intro t ht;unfold eO;dsimp only;rw[ar,cond_false];exact aa ⟨_,rfl,ht⟩
theorem Ia{N:Nat}{s:JF}(h:Inv N s){Ld:Str}(hp:Ld.length≤1000000)(label:Int):Gv (jy s Ld label) λ_=>True:=by
 have hal:=h.al;unfold jy;rw[jH h.sb,K8,nt h.sc hp,K8];refine ad (P:=λ_=>True) ?_ ?_
 ·refine ay (λ(_:Unit) i=>i) s.Lr.length (λ_ _=>True) (step:=fu s Ld label _ _) (by omega) ?_ ?_ (s:=()) trivial
  ·intro k hk _ _;have hak:=(h.ak _ (NQ hk)).al;unfold fu;rw[ah hk,cond_true,ai hk,K8];refine ad (P:=λ_=>True) ?_ ?_
   ·refine ay (λ(_:Unit) i=>i) s.Lr[k].Mr.length (λ_ _=>True) (step:=fF s Ld label _ _ s.Lr[k]) (by omega) ?_ ?_ (s:=()) trivial
    ·intro j hj _ _;unfold fF;rw[ah hj,cond_true,mK,K8];refine ad (P:=λ_=>True) ?_ λq _=>?_
     ·repeat' (first | exact⟨_,rfl,trivial⟩ | refine ae (λ_=>?_) (λ_=>?_))
     refine ae (λ_=>?_) λ_=>aa (.inr ⟨_,rfl,trivial⟩);simp only[ai hj,K8];refine ad (P:=λ_=>True) ?_ λq _=>?_
     ·repeat' (first | exact⟨_,rfl,trivial⟩ | refine ae (λ_=>?_) (λ_=>?_))
     refine ae (λ_=>?_) λ_=>aa (.inl ⟨(),rfl,trivial⟩);rw[rR h,K8];exact aa (.inr ⟨_,rfl,trivial⟩)
    ·intro _ _;unfold fF;rw[ar];exact aa ⟨_,rfl,trivial⟩
   ·rintro(q | q) _
    ·exact aa (.inr ⟨_,rfl,trivial⟩)
    ·exact aa (.inl ⟨(),rfl,trivial⟩)
  ·intro _ _;unfold fu;rw[ar];exact aa ⟨_,rfl,trivial⟩
 ·rintro(q | q) _
  ·exact aa trivial
  ·exact aa trivial
theorem yx:∀(l m:List Int),l.Nodup→(∀x∈l,x∈m)→l.length≤m.length
 | [],m,_,_=>by simp
 | x::l,m,hn,hm=>by
  have hx:=hm x (by simp)
  have h1:=Ug.1 hn
  have:=yx l (m.erase x) h1.2 λy hy=>(QgF (by rintro rfl;exact h1.1 hy)).2 (hm y (by simp[hy]))
  rw[QfI hx]at this;have hpos:=Qe_ hx;simp only[PN];omega
theorem Jm{N:Nat}{s:JF}(h:Inv N s)(label:Int):Gv (jW s label) λl=>l.length≤200:=by
 have hcl:=h.cl;unfold jW;refine ad (ra h label) ?_;rintro shares ⟨hsl,hsp⟩;rw[o0 h.sb,K8,jH h.sb,K8];dsimp only
 have Zn:∀x∈shares,x.LC.length≤1000000:=λx hx=>by have:=(nF h.cf (hsp x hx)).len;omega
 refine ad (P:=λ_=>True) ?_ λneed _=>?_
 ·refine ay (λ(n:Int) i=>(n,i)) shares.length (λ_ _=>True) (step:=gd s label shares) (by omega) ?_ ?_ (s:=_) trivial
  ·intro k hk n _;unfold gd;dsimp only;rw[ah hk,cond_true,aC hk,K8,K9 hk,K8];exact ad (Ia h (Zn _ (NQ hk)) label) λx _=>aa (.inl ⟨_,rfl,trivial⟩)
  ·intro n _;unfold gd;dsimp only;rw[ar];exact aa ⟨_,rfl,trivial⟩
 ·refine ad (P:=λr=>match r with | .inl l=>l.length≤200 | .inr l=>l.length≤200) ?_ ?_
  ·have hcount:∀l:List Int,l.Nodup→(∀x∈l,∃c∈s.Lc,c.Id=x)→l.length≤200:=by
    intro l hn hm
    have:l.length≤(s.Lc.map (·.Id)).length:=by refine yx l _ hn λx hx=>?_;obtain⟨c,hc,rfl⟩:=hm x hx;exact QdX hc
    rw[Py]at this;omega
   refine gD (λl:List Int=>l.Nodup∧∀x∈l,∃c∈s.Lc,c.Id=x) (λl=>200 - l.length) ?_ (t:=[]) ⟨Z6,by simp⟩
   rintro l ⟨hn,hm⟩;have hll:=hcount l hn hm;unfold nH
   refine ad (ya h [] label (by omega)) λx4 _=>?_
   refine ae (λ_=>?_) λ_=>aa (.inr ⟨_,rfl,hll⟩);refine ad (P:=λr=>r.1≠0→r.2∈s.Lc∧r.2.Id∉l) ?_ ?_
   ·refine ay (λ(t:Int×Lv) i=>(t.1,t.2,i)) shares.length (λ_ r=>r.1≠0→r.2∈s.Lc∧r.2.Id∉l) (step:=gi s label shares l) (by omega) ?_ ?_ (s:=((0:Int),(⟨0,0,0,⟨0,0⟩,0,0,false,0⟩:Lv))) (by simp)
    ·intro k hk t ht;unfold gi;dsimp only;rw[ah hk,cond_true];refine ad (P:=λr=>r.1≠0→r.2∈s.Lc∧r.2.Id∉l) ?_ λr hr=>aa (.inl ⟨r,rfl,hr⟩);simp only[aC hk,K8,K9 hk];rw[jH h.sb,K8]
     refine ad (ya h _ label (by omega)) λx8 _=>ad (Fm h _ label (by omega)) λx9 hx9=>?_
     refine ad (P:=λb=>b=true→x9.2=true) ?_ λb hb=>?_
     ·exact ae (λhx=>aa λ_=>hx) λ_=>aa (by simp)
     ·exact ae (λhbt=>aa λ_=>hx9 (hb hbt)) λ_=>aa ht
    ·intro t ht;unfold gi;dsimp only;rw[ar,cond_false];exact aa ⟨_,rfl,ht⟩
   ·rintro⟨o,c⟩ hr;dsimp only at hr ⊢;refine ae (λ_=>aa (.inr ⟨_,rfl,hll⟩)) λho=>?_
    obtain⟨c1,c2⟩:=hr (by simpa using ho)
    rw[aj (by simp;omega) (by omega),K8]
    have hn':(l++[c.Id]).Nodup:=Yo.2 ⟨hn,by simp,λa ha b hb e=>by rw[Lb]at hb;subst hb;subst e;exact c2 ha⟩
    have hm':∀x∈l++[c.Id],∃c∈s.Lc,c.Id=x:=by
     intro x hx;rcases OB.1 hx with hx | hx
     ·exact hm x hx
     ·rw[Lb]at hx;subst hx;exact⟨c,c1,rfl⟩
    have hlen:=hcount _ hn' hm';refine aa (.inl ⟨_,rfl,⟨hn',hm'⟩,?_⟩);rw[La]at hlen ⊢;simp only[QeF]at hlen ⊢;omega
  ·rintro(q | q) hq
   ·exact aa hq
   ·exact aa hq
theorem Jd{N:Nat}(hN:N≤900000){s:JF}(h:Inv N s)(label:Int):Gv (cC s label) (Inv (N+200)):=by
 have hcl:=h.cl;unfold cC;dsimp only;refine ad (P:=λl=>l.length≤s.Lc.length) ?_ λl hl=>?_
 ·rw[am (x:=(s.Lc.length:Int) - 1) (by omega) (by omega)]
  refine gD (λt:List Lv×Int=>-1≤t.2∧t.2<s.Lc.length∧(t.1.length:Int)≤s.Lc.length - 1 - t.2) (λt=>(t.2+1).toNat) ?_ (by dsimp only;simp;omega)
  rintro⟨l,i⟩ ⟨h1,h2,h3⟩;dsimp only at h1 h2 h3;unfold cp;dsimp only
  refine ae (λhge=>?_) λ_=>aa (.inr ⟨_,rfl,by omega⟩)
  simp only[decide_eq_true_eq]at hge;refine ad (P:=λm=>m.length≤l.length+1) ?_ λm hm=>aa (.inl ⟨(m,Lx (i - 1)),rfl,?_,?_⟩)
  ·refine ad (cL (eB (by omega) h2)) λx _=>?_
   refine ad (P:=λ_=>True) ?_ λq _=>?_
   ·repeat' (first | exact⟨_,rfl,trivial⟩ | refine ae (λ_=>?_) (λ_=>?_))
   refine ae (λ_=>?_) λ_=>aa (by omega)
   rw[aj (by simp;omega) (by omega),K8]
   exact aa (by simp)
  ·rw[am (x:=i - 1) (by omega) (by omega)];dsimp only;omega
  ·rw[am (x:=i - 1) (by omega) (by omega)];dsimp only;omega
 ·refine ad (P:=Inv (N+200)) ?_ λt ht=>aa ht
  refine ay (λ(t:JF) i=>(t,i)) l.length (λk t=>Inv (N+k) t) (step:=a9 label l) (by omega) ?_ ?_ (s:=s) h
  ·intro k hk t ht;unfold a9;dsimp only;rw[ah hk,cond_true];refine ad (P:=Inv (N+(k+1))) ?_ λu hu=>aa (.inl ⟨u,rfl,hu⟩);rw[aC hk,K8,K9 hk,K8,dR ht.z,K8]
   cases hc:bJ t l[k].Id with
   | none=>exact aa (ht.mono (by omega))
   | some c=>
    simp only[Option.elim,PZ,cond_false];rw[qU ht.z,K8,jH ht.sb,K8];refine ad (Em ht c) λx5 _=>?_;rw[K8];refine ad (Ip ht label _) λx7 _=>?_;refine ae (λ_=>?_) λ_=>?_
    ·exact ad (xx ht (ids:=[c.Id]) (by simp;omega)) λu hu=>aa hu
    ·exact ad (xm ht c.Id 0 ⟨Uj _,by unfold imax;split<;>omega⟩) λu hu=>aa (hu.1.mono (by omega))
  ·intro t ht;unfold a9;dsimp only;rw[ar]
   exact aa ⟨t,rfl,ht.mono (by omega)⟩
theorem BQ{s t:JF}(h:M_ s)(h':M_ t):Gv (fN s t) λ_=>True:=by
 have hc:=h.c;unfold fN;refine ad (P:=λ_=>True) ?_ λ_ _=>aa trivial
 refine ay (λ(l:List Int) i=>(l,i)) s.Lc.length (λk l=>l.length≤k) (step:=gu s t) (by omega) ?_ ?_ (s:=[]) (by simp)
 ·intro k hk l hl;unfold gu;dsimp only;rw[ah hk,cond_true,ai hk,K8,dR h',K8];refine ad (P:=λm=>m.length≤k+1) ?_ λm hm=>aa (.inl ⟨m,rfl,hm⟩)
  refine ae (λ_=>?_) λ_=>aa (by omega)
  rw[K8,aj (by simp;omega) (by omega),K8]
  exact aa (by simp;omega)
 ·intro l hl;unfold gu;rw[ar];exact aa ⟨l,rfl,trivial⟩
theorem Gf{N:Nat}(hN:N≤800000){s:JF}(h:Inv N s):Gv (jC s) λr=>Inv (N+600) r.1:=by
 unfold jC;refine ad (P:=Inv (N+600)) ?_ λt ht=>ad (BQ h.z ht.z) λ_ _=>aa ht
 refine gD (λt:JF×Int=>0≤t.2∧t.2≤3∧Inv (N+200*t.2.toNat) t.1) (λt=>(3 - t.2).toNat) ?_ (by dsimp only;exact⟨by omega,by omega,h⟩)
 rintro⟨t,i⟩ ⟨h1,h2,ht⟩;dsimp only at h1 h2 ht;have hlb:=ht.cf.lab;unfold mS;dsimp only
 refine ae (λhlt=>?_) λ_=>aa (.inr ⟨_,rfl,ht.mono (by omega)⟩)
 simp only[decide_eq_true_eq]at hlt
 refine ad (Jd (by omega) ht i) λu hu=>?_
 refine ad (Jm hu i) λl hl=>?_;refine ad (P:=Inv (N+200*i.toNat+200)) ?_ λv hv=>aa (.inl ⟨(v,Lx (i+1)),rfl,?_,?_⟩)
 ·refine ay (λ(t:JF) i=>(t,i)) l.length (λ_ t=>Inv (N+200*i.toNat+200) t) (step:=fH l) (by omega) ?_ ?_ (s:=u) hu
  ·intro k hk t ht;unfold fH;dsimp only;rw[ah hk,cond_true,aC hk,K8,K9 hk,K8]
   exact ad (xm ht _ _ ⟨by unfold imax;split<;>omega,Uj _⟩) λu hu=>aa (.inl ⟨u,rfl,hu.1⟩)
  ·intro t ht;unfold fH;dsimp only;rw[ar];exact aa ⟨t,rfl,ht⟩
 ·rw[am (x:=i+1) (by omega) (by omega)]
  dsimp only
  exact⟨by omega,by omega,hv.mono (by omega)⟩
 ·rw[am (x:=i+1) (by omega) (by omega)];dsimp only;omega
theorem MI.at_{N:Nat}{s:JF}(h:MI ZN N s){t:Int}(ht:s.Now≤t∧0≤t∧t≤1000000000)(hN:t≤(N:Int)):Inv N ⟨s.Lf,s.Ls,s.Lr,s.Lc,s.LG,s.LU,t,s.L9,s.Seq⟩:=
 ⟨h.cf,h.nl,h.ns,h.nk,h.al,h.Px,h.ak,h.cl,h.cs,λc hc=>⟨(h.ck c hc).size,(h.ck c hc).app,(h.ck c hc).label,(h.ck c hc).id,(h.ck c hc).R6⟩,h.ss,h.sk,h.pl,h.ps,h.pk,ht.2,h.ep,h.sq,⟨h.en.1,hN,h.en.2.2⟩,h.sd.Xv,h.sd.Ta,h.sd.slt,λc hc=>by
  have h1:=h.sd.Vr c hc
  have h2:imax s.Now 1≤imax t 1:=by unfold imax;split<;>split<;>omega
  exact⟨h1.1,QgR h1.2 h2⟩,h.sd.fit,h.sd.one⟩
theorem JC{s:JF}(h:M_ s)(i:Int):Gv (kj s i) λ_=>True:=by
 have hc:=h.c;unfold kj;refine ad (P:=λ_=>True) ?_ ?_
 ·refine ay (λ(_:Unit) i=>i) s.Lc.length (λ_ _=>True) (step:=gO s i) (by omega) ?_ ?_ (s:=()) trivial
  ·intro k hk _ _;unfold gO;rw[ah hk,cond_true];simp only[ai hk,K8];refine ad (P:=λ_=>True) ?_ λq _=>?_
   ·repeat' (first | exact⟨_,rfl,trivial⟩ | refine ae (λ_=>?_) (λ_=>?_))
   exact ae (λ_=>aa (.inr ⟨_,rfl,trivial⟩)) λ_=>aa (.inl ⟨(),rfl,trivial⟩)
  ·intro _ _;unfold gO;rw[ar];exact aa ⟨_,rfl,trivial⟩
 ·rintro(q | q) _
  ·exact aa trivial
  ·exact aa trivial
theorem Dg{s:JF}(h:M_ s):Gv (js s) λl=>l.length≤s.Ls.length:=by
 have hc:=h.n;unfold js;refine ad (P:=λl=>l.length≤s.Ls.length) ?_ λl hl=>aa hl
 refine ay (λ(l:List Int) i=>(l,i)) s.Ls.length (λk l=>l.length≤k) (step:=fJ s) (by omega) ?_ ?_ (s:=[]) (by simp)
 ·intro k hk l hl;unfold fJ;dsimp only;rw[ah hk,cond_true];simp only[ai hk,K8];refine ad (P:=λm=>m.length≤k+1) ?_ λm hm=>aa (.inl ⟨m,rfl,hm⟩);refine ad (P:=λ_=>True) ?_ λq _=>?_
  ·repeat' (first | exact⟨_,rfl,trivial⟩ | refine ae (λ_=>?_) (λ_=>?_))
  refine ae (λ_=>?_) λ_=>aa (by omega)
  rw[aj (by simp;omega) (by omega),K8]
  exact aa (by simp;omega)
 ·intro l hl;unfold fJ;rw[ar];exact aa ⟨l,rfl,hl⟩
theorem Bj{s:JF}(h:M_ s):Gv (iE s) λl=>l.length≤s.Lr.length:=by
 have hc:=h.a;unfold iE;refine ad (P:=λl=>l.length≤s.Lr.length) ?_ λl hl=>aa hl
 refine ay (λ(l:List Int) i=>(l,i)) s.Lr.length (λk l=>l.length≤k) (step:=eU s) (by omega) ?_ ?_ (s:=[]) (by simp)
 ·intro k hk l hl;unfold eU;dsimp only;rw[ah hk,cond_true];simp only[ai hk,K8];refine ad (P:=λm=>m.length≤k+1) ?_ λm hm=>aa (.inl ⟨m,rfl,hm⟩);refine ad (P:=λ_=>True) ?_ λq _=>?_
  ·repeat' (first | exact⟨_,rfl,trivial⟩ | refine ae (λ_=>?_) (λ_=>?_))
  refine ae (λ_=>?_) λ_=>aa (by omega)
  rw[aj (by simp;omega) (by omega),K8]
  exact aa (by simp;omega)
 ·intro l hl;unfold eU;rw[ar];exact aa ⟨l,rfl,hl⟩
theorem Js{N:Nat}(hN:N≤500000){s:JF}(h:Inv N s)(n:Int):Gv (jO s n) λr=>Inv (N+3200) r.1:=by
 have hnl:=h.nl;have ade:=h.now;unfold jO;refine ad (P:=λb=>b=false→1≤n∧n≤100) ?_ λb hb=>?_
 ·refine ae (λ_=>aa (by simp)) λh1=>aa λh2=>?_
  simp only[decide_eq_false_iff_not]at h1 h2;omega
 refine ae (λ_=>aa (h.mono (by omega))) λhbf=>?_
 obtain⟨n1,n2⟩:=hb hbf
 rw[am (x:=s.Now+n) (by omega) (by omega)]
 refine ae (λ_=>aa (h.mono (by omega))) λhle=>?_
 simp only[decide_eq_false_iff_not]at hle
 have h0:=(h.mono (Nat.le_add_right N 100)).at_ (t:=s.Now+n) ⟨by omega,by omega,by omega⟩ (by have:=h.en.2.1;omega)
 obtain⟨M,hM⟩:∃M,M=N+100:=⟨_,rfl⟩;rw[← hM]at h0;obtain⟨s0,hs0⟩:∃s0,s0=(⟨⟨s.Lf.Lp,s.Lf.Lg⟩,s.Ls,s.Lr,s.Lc,s.LG,s.LU,s.Now+n,s.L9,s.Seq⟩:JF):=⟨_,rfl⟩
 have h0:Inv M s0:=by rw[hs0];exact h0
 have aoM:s0.Ls=s.Ls:=by rw[hs0]
 rw[← hs0];clear hs0;refine ad (Dg h0.z) λl hl=>?_;rw[aoM]at hl;refine ad (P:=Inv (M+200*12)) ?_ λs1 hs1=>?_
 ·refine ay (λ(t:JF) i=>(t,i)) l.length (λk t=>Inv (M+200*k) t) (step:=gC l) (by omega) ?_ ?_ (s:=s0) h0
  ·intro k hk t ht;unfold gC;dsimp only;rw[ah hk,cond_true];simp only[aC hk,K8,K9 hk];refine ad (I4 ht _) λu hu=>?_;rw[qO hu.z,K8];have hv:=hu.noSlot l[k];rw[C2 hv.z,K8]
   have hlen:(((Pn u l[k]).Lc.filter λc=>c.LB == l[k]).map (·.Id)).length≤200:=by rw[Py];exact Rb (Um _ _) hv.cl
   have hin:∀c∈(Pn u l[k]).Lc,c.LB=l[k]→c.Id∈((Pn u l[k]).Lc.filter λc=>c.LB == l[k]).map (·.Id):=λc hc e=>QdX (PL.2 ⟨hc,by simpa using e⟩)
   have hsl:∀x∈(Pn u l[k]).LG,x.LB≠l[k]:=λx hx=>by simpa using(PL.1 hx).2
   generalize((Pn u l[k]).Lc.filter λc=>c.LB == l[k]).map (·.Id)=ids at hlen hin ⊢;generalize Pn u l[k]=w at hv hin hsl ⊢
   have hL:=vu hv (ids:=ids) (by omega)
   refine ad hL λz hz=>aa (.inl ⟨z,rfl,?_⟩);obtain⟨hz,hl2⟩:=hz
   have hz2:MI (exN l[k]) (M+200*(k+1)) z:=hz.mono (by omega)
   refine MI.relax (E':=ZN) hz2 (λc hc e=>?_) (λx hx e=>?_) λ_ _ _ e=>e
   ·have e:c.LB=l[k]:=e;obtain⟨c1,c2⟩:=hl2.ct c hc;exact(c2 (hin c c1 e)).elim
   ·have e:x.LB=l[k]:=e;exact(hsl x (hl2.sl x hx) e).elim
  ·intro t ht;unfold gC;dsimp only;rw[ar]
   exact aa ⟨t,rfl,ht.mono (by omega)⟩
 ·refine ad (Bj hs1.z) λl1 hl1=>?_;have hal:=hs1.al;refine ad (P:=Inv (M+200*12+16)) ?_ λs2 hs2=>?_
  ·refine ay (λ(t:JF) i=>(t,i)) l1.length (λk t=>Inv (M+200*12+k) t) (step:=gf l1) (by omega) ?_ ?_ (s:=s1) hs1
   ·intro k hk t ht;unfold gf;dsimp only;rw[ah hk,cond_true,aC hk,K8,K9 hk,K8];refine ad (JC ht.z _) λx10 _=>?_
    exact ad (xx ht (ids:=[x10]) (by simp;omega)) λu hu=>aa (.inl ⟨u,rfl,hu⟩)
   ·intro t ht;unfold gf;dsimp only;rw[ar]
    exact aa ⟨t,rfl,ht.mono (by omega)⟩
  ·have hpl:=hs2.pl
   have e:=bU (λ(l:List MW) i=>(l,i)) s2.LU (λp=>decide (p.Until>s2.Now)) id (step:=gw s2) (by omega) ?_ ?_
   ·rw[e,K8,Z0];have h3:=hs2.plans (ps:=s2.LU.filter λp=>decide (p.Until>s2.Now)) Wh
    refine ad (Gf (by omega) h3) λr hr=>?_
    exact ad (BQ h.z hr.z) λ_ _=>aa (hr.mono (by omega))
   ·intro k hk l hl;unfold gw;dsimp only;rw[ah hk,cond_true,ai hk,K8]
    cases hp:decide (s2.LU[k].Until>s2.Now)
    ·rfl
    ·rw[cond_true,K8,aj (by simp;omega) (by omega)]
     rfl
   ·intro l;unfold gw;rw[ar];rfl
structure WJ(x:Input):Prop where
 ids:x.Ids.length≤1000
 asks:x.Mr.length≤1000
 user:0≤x.LD.User∧x.LD.User≤2
 txt:∀b∈x.Text,b≠45
theorem Cv{N:Nat}(hN:N≤500000){s:JF}(h:Inv N s){x:Input}(hx:WJ x):Gv (fU s x) λr=>Inv (N+4000) r.1:=by
 have m:∀{t:JF},Inv N t→Inv (N+4000) t:=λht=>ht.mono (by omega)
 unfold fU;refine ae (λ_=>ad (E5 h _ hx.txt) λr hr=>aa (m hr)) λ_=>?_;refine ae (λ_=>ad (BG h _) λr hr=>aa (m hr)) λ_=>?_
 refine ae (λ_=>ad (Jr (by omega) h x hx.ids) λr hr=>aa (hr.mono (by omega))) λ_=>?_
 refine ae (λ_=>ad (Fa h _ hx.user) λr hr=>aa (m hr)) λ_=>?_
 refine ae (λ_=>ad (D5 (by omega) h x hx.ids hx.asks) λr hr=>aa (m hr)) λ_=>?_
 refine ae (λ_=>ad (Fe h _ _ (.inl rfl)) λr hr=>aa (m hr)) λ_=>?_;refine ae (λ_=>ad (Fe h _ _ (.inr rfl)) λr hr=>aa (m hr)) λ_=>?_
 refine ae (λ_=>ad (Js hN h _) λr hr=>aa (hr.mono (by omega))) λ_=>?_
 refine ae (λ_=>ad (Ha h _ _) λr hr=>aa (m hr)) λ_=>?_;refine ae (λ_=>ad (JT h _) λr hr=>aa (m hr)) λ_=>?_;refine ae (λ_=>?_) λ_=>aa (m h)
 refine ae (λ_=>aa (m h)) λhe=>aa (MI.mono (E:=ZN) (N:=N+1) ?_ (by omega))
 simp only[decide_eq_false_iff_not]at he;have hep:=h.ep;have hsq:=h.sq
 rw[am (x:=s.L9+1) (by omega) (by omega)]
 refine⟨h.cf,h.nl,h.ns,h.nk,h.al,h.Px,(MI.mono h (QfU N)).ak,h.cl,h.cs,λc hc=>?_,h.ss,h.sk,h.pl,h.ps,h.pk,h.now,by dsimp only;omega,by dsimp only;omega,⟨by have:=h.en.1;show s.L9+1≤((N+1:Nat):Int);omega,by have:=h.en.2.1;show s.Now≤((N+1:Nat):Int);omega,λa ha=>⟨(h.en.2.2 a ha).1,λg hg=>by have:=(h.en.2.2 a ha).2 g hg;show g≤(s.L9+1)*1048576+0;omega⟩⟩,h.sd.Xv,h.sd.Ta,h.sd.slt,h.sd.Vr,h.sd.fit,h.sd.one⟩
 have:=h.ck c hc;have hid:=this.id
 exact⟨this.size,this.app,this.label,by dsimp only;omega,this.R6⟩
end Go.Fx.D
