/-
  The reference manager: what holds of its state after every script. Conditions: none.
-/
import Derived.Test.YtdickabkndfjhaaGreatS15
namespace Go.Fx.D
open Go Go.Fx
set_option linter.unusedVariables false
set_option linter.unusedSimpArgs false
def strip(c:Lx):Lx:=⟨c.Id,c.LM,c.LG,c.LY,c.LD,c.Ll,c.Lp,0⟩
theorem MJ.V6{N:Nat}{s:JG}(h:MJ Z9 N s){cs:List Lx}(e:cs.map strip=s.Kl.map strip)(hn:∀c∈cs,0≤c.Mw∧c.Mw≤imax s.Now 1):Inv N ⟨s.Lg,s.Lu,s.Lv,cs,s.LH,s.LJ,s.Now,s.L8,s.Seq⟩:=by
 have hl:cs.length=s.Kl.length:=by simpa using congrArg List.length e
 have hin:∀c∈cs,∃d∈s.Kl,strip d=strip c:=λc hc=>by
  have hm:strip c∈s.Kl.map strip:=by rw[← e];exact QdX hc
  exact RA.1 hm
 have hfi:∀(i:Int)(l:List Lx),(l.filter λc=>c.LG == i).map (·.LY)=((l.map strip).filter λc=>c.LG == i).map (·.LY):=λi l=>by rw[List.filter_map,List.map_map];rfl
 have hma:∀(i:Int)(l:List Lx),(OP l i).length=(OP (l.map strip) i).length:=λi l=>by unfold OP;rw[List.filter_map,PI];rfl
 refine⟨h.cf,h.nl,h.ns,h.nk,h.al,h.Rb,h.ak,by show cs.length≤200;rw[hl];exact h.cl,?_,λc hc=>?_,h.ss,h.sk,h.pl,h.ps,h.pk,h.now,h.ep,h.sq,h.en,h.sd.Xa,λc hc=>?_,h.sd.slt,hn,λn hn=>?_,λa ha e2=>?_⟩
 ·have h1:(s.Kl.map strip).Pairwise λx y=>x.Id<y.Id:=QfT.2 h.cs;rw[← e]at h1;exact(QfT (f:=strip) (R:=λx y:Lx=>x.Id<y.Id)).1 h1
 ·have hm:strip c∈s.Kl.map strip:=by rw[← e];exact QdX hc
  obtain⟨c',hc',ec⟩:=RA.1 hm;have:=h.ck c' hc';unfold strip at ec
  injection ec with e1 e2 e3 e4 e5 e6 e7
  refine⟨by rw[← e4];exact this.size,?_,by rw[← e6];exact this.label,by rw[← e1];exact this.id⟩
  rw[← e2];exact this.app
 ·obtain⟨d,hd,ed⟩:=hin c hc;unfold strip at ed
  injection ed with e1 e2 e3 e4 e5 e6 e7
  rw[← e3,← e6];exact h.sd.S9 d hd
 ·have:=h.sd.fit n hn;unfold jD at this ⊢;rw[hfi]at this;dsimp only;rw[hfi,e];exact this
 ·rcases h.sd.one a ha e2 with e3 | e3
  ·exact .inl e3
  ·rw[hma]at e3;refine .inr ?_;show(OP cs a.Id).length=1;rw[hma,e];exact e3
theorem xI{N:Nat}{s:JG}(h:Inv N s)(i t:Int)(ht:0≤t∧t≤imax s.Now 1):Gv (cL s i t) λu=>Inv N u∧u.Now=s.Now:=by
 have hcl:=h.cl;unfold cL
 rw[ao (by simp;omega) (by omega),K_,PX]
 refine ad (P:=λl=>l.map strip=s.Kl.map strip∧∀c∈l,0≤c.Mw∧c.Mw≤imax s.Now 1) ?_ λl hl=>aa ⟨h.V6 hl.1 hl.2,rfl⟩
 refine az (λ(l:List Lx) i=>(l,i)) s.Kl.length (λ_ l=>l.map strip=s.Kl.map strip∧∀c∈l,0≤c.Mw∧c.Mw≤imax s.Now 1) (step:=ca i t) (by omega) ?_ ?_ (s:=s.Kl) ⟨rfl,h.sd.Vq⟩
 ·rintro k hk l ⟨hl,hno⟩
  have hll:l.length=s.Kl.length:=by simpa using congrArg List.length hl
  have hkl:k<l.length:=by omega
  unfold ca;dsimp only;rw[hll,ah hk,cond_true];refine ad (P:=λm=>m.map strip=s.Kl.map strip∧∀c∈m,0≤c.Mw∧c.Mw≤imax s.Now 1) ?_ λm hm=>aa (.inl ⟨m,rfl,hm⟩);rw[← hll];simp only[aC hkl,K_,La hkl];refine ae (λ_=>aa ⟨?_,λc hc=>?_⟩) λ_=>aa ⟨hl,hno⟩
  ·rw[← hl,List.map_set]
   have e:strip ⟨l[k].Id,l[k].LM,l[k].LG,⟨l[k].LY.Mem,l[k].LY.LA⟩,l[k].LD,l[k].Ll,l[k].Lp,t⟩=(l.map strip)[k]'(by simpa using hkl):=by simp[strip]
   rw[e,List.set_getElem_self]
  ·rcases QeZ hc with hc | rfl
   ·exact hno c hc
   ·exact ht
 ·rintro l ⟨hl,hno⟩
  have hll:l.length=s.Kl.length:=by simpa using congrArg List.length hl
  unfold ca;dsimp only;rw[hll,am];exact aa ⟨l,rfl,hl,hno⟩
def cx(s:JG)(c:Lx):Str:=(M9 s c.LM).elim [] (·.Ls)
theorem oq{s:JG}(h:M4 s)(c:Lx):cO s c=some (cx s c):=by
 unfold cO cx;rw[dJ h,K_]
 cases M9 s c.LM<;>rfl
theorem EH{N:Nat}{s:JG}(h:Inv N s)(c:Lx):Gv (c9 s c) λ_=>True:=by
 have hcl:=h.cl;unfold c9;refine ad (P:=λ_=>True) ?_ λ_ _=>aa trivial
 refine az (λ(n:Int) i=>(n,i)) s.Kl.length (λ_ _=>True) (step:=bg s c) (by omega) ?_ ?_ (s:=0) trivial
 ·intro k hk n _;unfold bg;dsimp only;rw[ah hk,cond_true,K_];refine ae (λ_=>?_) λ_=>aa (.inr ⟨_,rfl,trivial⟩);refine ad (P:=λ_=>True) ?_ λn _=>aa (.inl ⟨n,rfl,trivial⟩);simp only[ai hk,K_];refine ad (P:=λ_=>True) ?_ λq _=>?_
  ·repeat' (first | exact⟨_,rfl,trivial⟩ | refine ae (λ_=>?_) (λ_=>?_))
  ·repeat' (first | exact⟨_,rfl,trivial⟩ | refine ae (λ_=>?_) (λ_=>?_))
 ·intro n _;unfold bg;dsimp only;rw[am];exact aa ⟨_,rfl,trivial⟩
def W9(l:List Int)(n:Int):Bool:=l.contains n
theorem u7{l:List Int}(hl:l.length≤100000)(n:Int):fH l n=some (W9 l n):=by
 unfold fH
 have e:=eT (λi=>i) l (λx=>x == n) (λ_=>(.inl true:Bool ⊕ Unit)) (.inr ()) (step:=fD l n) (by omega) ?_ ?_ ?_
 ·rw[e];unfold W9
  cases hf:l.find? λx=>x == n with
  | none=>
   have:l.contains n=false:=by rw[List.contains_eq_any_beq,List.any_eq_false];intro x hx;have:=QdJ.1 hf x hx;simp only[beq_iff_eq]at this ⊢;exactλe=>this e.symm
   rw[this];rfl
  | some x=>
   have h1:=QeG hf;have h2:=QgM hf
   have:l.contains n=true:=by rw[List.contains_eq_any_beq,QfF];simp only[beq_iff_eq]at h2 ⊢;exact⟨x,h1,h2.symm⟩
   rw[this];rfl
 ·intro k hk hp;unfold fD;rw[ah hk,cond_true,ai hk,K_,hp];rfl
 ·intro k hk hp;unfold fD;rw[ah hk,cond_true,ai hk,K_,hp];rfl
 ·unfold fD;rw[am];rfl
theorem yi{N:Nat}{s:JG}(h:Inv N s)(Lf:Str)(label:Int){l:List Int}(hl:l.length≤100000):Gv (co s Lf label l) λ_=>True:=by
 have hcl:=h.cl;unfold co;refine ad (P:=λ_=>True) ?_ λ_ _=>aa trivial
 refine az (λ(n:Int) i=>(n,i)) s.Kl.length (λ_ _=>True) (step:=bI s Lf label l) (by omega) ?_ ?_ (s:=0) trivial
 ·intro k hk n _;unfold bI;dsimp only;rw[ah hk,cond_true];refine ad (P:=λ_=>True) ?_ λn _=>aa (.inl ⟨n,rfl,trivial⟩);rw[ai hk,K_,u7 hl,oq h.z];refine ad (P:=λ_=>True) ?_ λq _=>?_
  ·simp only[K_]
   repeat' (first | exact⟨_,rfl,trivial⟩ | refine ae (λ_=>?_) (λ_=>?_))
  ·repeat' (first | exact⟨_,rfl,trivial⟩ | refine ae (λ_=>?_) (λ_=>?_))
 ·intro n _;unfold bI;dsimp only;rw[am];exact aa ⟨_,rfl,trivial⟩
theorem FM{N:Nat}{s:JG}(h:Inv N s)(Lf:Str)(label:Int){l:List Int}(hl:l.length≤100000):Gv (da s Lf label l) λr=>r.2=true→r.1∈s.Kl∧r.1.Id∉l:=by
 have hcl:=h.cl;unfold da;refine ad (P:=λr=>r.2=true→r.1∈s.Kl∧r.1.Id∉l) ?_ λ_ hr=>aa hr
 refine az (λ(t:Lx×Bool) i=>(t.1,t.2,i)) s.Kl.length (λ_ r=>r.2=true→r.1∈s.Kl∧r.1.Id∉l) (step:=bi s Lf label l) (by omega) ?_ ?_ (s:=((⟨0,0,0,⟨0,0⟩,0,0,false,0⟩:Lx),false)) (by simp)
 ·intro k hk t ht;unfold bi;dsimp only;rw[ah hk,cond_true];refine ad (P:=λr=>r.2=true→r.1∈s.Kl∧r.1.Id∉l) ?_ λr hr=>aa (.inl ⟨r,rfl,hr⟩);rw[ai hk,K_,u7 hl,oq h.z];refine ad (P:=λb=>b=false→s.Kl[k].Id∉l) ?_ λq hq=>?_
  ·simp only[K_]
   refine ae (λ_=>aa (by simp)) λ_=>ae (λ_=>aa (by simp)) λ_=>ae (λ_=>aa (by simp)) λ_=>aa λhb=>?_
   unfold W9 at hb;intro hm;rw[YI.2 hm]at hb;cases hb
  ·refine ae (λ_=>aa ht) λhqf=>?_;refine ad (P:=λ_=>True) ?_ λq1 _=>?_
   ·repeat' (first | exact⟨_,rfl,trivial⟩ | refine ae (λ_=>?_) (λ_=>?_))
   ·exact ae (λ_=>aa λ_=>⟨Nq hk,hq hqf⟩) λ_=>aa ht
 ·intro t ht;unfold bi;dsimp only;rw[am,cond_false];exact aa ⟨_,rfl,ht⟩
theorem Hc{N:Nat}{s:JG}(h:Inv N s){Lf:Str}(hp:Lf.length≤1000000)(label:Int):Gv (dv s Lf label) λ_=>True:=by
 have hal:=h.al;unfold dv;rw[gL h.sb,K_,mL h.sc hp,K_];refine ad (P:=λ_=>True) ?_ ?_
 ·refine az (λ(_:Unit) i=>i) s.Lv.length (λ_ _=>True) (step:=bS s Lf label _ _) (by omega) ?_ ?_ (s:=()) trivial
  ·intro k hk _ _;have hak:=(h.ak _ (Nq hk)).al;unfold bS;rw[ah hk,cond_true,ai hk,K_];refine ad (P:=λ_=>True) ?_ ?_
   ·refine az (λ(_:Unit) i=>i) s.Lv[k].Mq.length (λ_ _=>True) (step:=bz s Lf label _ _ s.Lv[k]) (by omega) ?_ ?_ (s:=()) trivial
    ·intro j hj _ _;unfold bz;rw[ah hj,cond_true,jy,K_];refine ad (P:=λ_=>True) ?_ λq _=>?_
     ·repeat' (first | exact⟨_,rfl,trivial⟩ | refine ae (λ_=>?_) (λ_=>?_))
     refine ae (λ_=>?_) λ_=>aa (.inr ⟨_,rfl,trivial⟩);simp only[ai hj,K_];refine ad (P:=λ_=>True) ?_ λq _=>?_
     ·repeat' (first | exact⟨_,rfl,trivial⟩ | refine ae (λ_=>?_) (λ_=>?_))
     refine ae (λ_=>?_) λ_=>aa (.inl ⟨(),rfl,trivial⟩);rw[qB h,K_];exact aa (.inr ⟨_,rfl,trivial⟩)
    ·intro _ _;unfold bz;rw[am];exact aa ⟨_,rfl,trivial⟩
   ·rintro(q | q) _
    ·exact aa (.inr ⟨_,rfl,trivial⟩)
    ·exact aa (.inl ⟨(),rfl,trivial⟩)
  ·intro _ _;unfold bS;rw[am];exact aa ⟨_,rfl,trivial⟩
 ·rintro(q | q) _
  ·exact aa trivial
  ·exact aa trivial
theorem ux:∀(l m:List Int),l.Nodup→(∀x∈l,x∈m)→l.length≤m.length
 | [],m,_,_=>by simp
 | x::l,m,hn,hm=>by
  have hx:=hm x (by simp)
  have h1:=Un.1 hn
  have:=ux l (m.erase x) h1.2 λy hy=>(List.mem_erase_of_ne (by rintro rfl;exact h1.1 hy)).2 (hm y (by simp[hy]))
  rw[QgN hx]at this;have hpos:=QeR hx;simp only[P5];omega
theorem Jd{N:Nat}{s:JG}(h:Inv N s)(label:Int):Gv (ce s label) λl=>l.length≤200:=by
 have hcl:=h.cl;unfold ce;refine ad (rE h label) ?_;rintro shares ⟨hsl,hsp⟩;rw[nX h.sb,K_,gL h.sb,K_];dsimp only
 have ZG:∀x∈shares,x.LB.length≤1000000:=λx hx=>by have:=(kC h.cf (hsp x hx)).len;omega
 refine ad (P:=λ_=>True) ?_ λneed _=>?_
 ·refine az (λ(n:Int) i=>(n,i)) shares.length (λ_ _=>True) (step:=bc s label shares) (by omega) ?_ ?_ (s:=_) trivial
  ·intro k hk n _;unfold bc;dsimp only;rw[ah hk,cond_true,aC hk,K_,La hk,K_];exact ad (Hc h (ZG _ (Nq hk)) label) λx _=>aa (.inl ⟨_,rfl,trivial⟩)
  ·intro n _;unfold bc;dsimp only;rw[am];exact aa ⟨_,rfl,trivial⟩
 ·refine ad (P:=λr=>match r with | .inl l=>l.length≤200 | .inr l=>l.length≤200) ?_ ?_
  ·have hcount:∀l:List Int,l.Nodup→(∀x∈l,∃c∈s.Kl,c.Id=x)→l.length≤200:=by
    intro l hn hm
    have:l.length≤(s.Kl.map (·.Id)).length:=by refine ux l _ hn λx hx=>?_;obtain⟨c,hc,rfl⟩:=hm x hx;exact QdX hc
    rw[PI]at this;omega
   refine jA (λl:List Int=>l.Nodup∧∀x∈l,∃c∈s.Kl,c.Id=x) (λl=>200 - l.length) ?_ (t:=[]) ⟨QeB,by simp⟩
   rintro l ⟨hn,hm⟩;have hll:=hcount l hn hm;unfold a9
   refine ad (yi h [] label (by omega)) λx4 _=>?_
   refine ae (λ_=>?_) λ_=>aa (.inr ⟨_,rfl,hll⟩);refine ad (P:=λr=>r.1≠0→r.2∈s.Kl∧r.2.Id∉l) ?_ ?_
   ·refine az (λ(t:Int×Lx) i=>(t.1,t.2,i)) shares.length (λ_ r=>r.1≠0→r.2∈s.Kl∧r.2.Id∉l) (step:=a7 s label shares l) (by omega) ?_ ?_ (s:=((0:Int),(⟨0,0,0,⟨0,0⟩,0,0,false,0⟩:Lx))) (by simp)
    ·intro k hk t ht;unfold a7;dsimp only;rw[ah hk,cond_true];refine ad (P:=λr=>r.1≠0→r.2∈s.Kl∧r.2.Id∉l) ?_ λr hr=>aa (.inl ⟨r,rfl,hr⟩);simp only[aC hk,K_,La hk];rw[gL h.sb,K_]
     refine ad (yi h _ label (by omega)) λx8 _=>ad (FM h _ label (by omega)) λx9 hx9=>?_
     refine ad (P:=λb=>b=true→x9.2=true) ?_ λb hb=>?_
     ·exact ae (λhx=>aa λ_=>hx) λ_=>aa (by simp)
     ·exact ae (λhbt=>aa λ_=>hx9 (hb hbt)) λ_=>aa ht
    ·intro t ht;unfold a7;dsimp only;rw[am,cond_false];exact aa ⟨_,rfl,ht⟩
   ·rintro⟨o,c⟩ hr;dsimp only at hr ⊢;refine ae (λ_=>aa (.inr ⟨_,rfl,hll⟩)) λho=>?_
    obtain⟨c1,c2⟩:=hr (by simpa using ho)
    rw[ao (by simp;omega) (by omega),K_]
    have hn':(l++[c.Id]).Nodup:=Xd.2 ⟨hn,by simp,λa ha b hb e=>by rw[Ld]at hb;subst hb;subst e;exact c2 ha⟩
    have hm':∀x∈l++[c.Id],∃c∈s.Kl,c.Id=x:=by
     intro x hx;rcases N_.1 hx with hx | hx
     ·exact hm x hx
     ·rw[Ld]at hx;subst hx;exact⟨c,c1,rfl⟩
    have hlen:=hcount _ hn' hm';refine aa (.inl ⟨_,rfl,⟨hn',hm'⟩,?_⟩);rw[Lc]at hlen ⊢;simp only[QcT]at hlen ⊢;omega
  ·rintro(q | q) hq
   ·exact aa hq
   ·exact aa hq
theorem JU{N:Nat}(hN:N≤900000){s:JG}(h:Inv N s)(label:Int):Gv (bP s label) (Inv (N+200)):=by
 have hcl:=h.cl;unfold bP;dsimp only;refine ad (P:=λl=>l.length≤s.Kl.length) ?_ λl hl=>?_
 ·rw[aj (x:=(s.Kl.length:Int) - 1) (by omega) (by omega)]
  refine jA (λt:List Lx×Int=>-1≤t.2∧t.2<s.Kl.length∧(t.1.length:Int)≤s.Kl.length - 1 - t.2) (λt=>(t.2+1).toNat) ?_ (by dsimp only;simp;omega)
  rintro⟨l,i⟩ ⟨h1,h2,h3⟩;dsimp only at h1 h2 h3;unfold cI;dsimp only
  refine ae (λhge=>?_) λ_=>aa (.inr ⟨_,rfl,by omega⟩)
  simp only[decide_eq_true_eq]at hge;refine ad (P:=λm=>m.length≤l.length+1) ?_ λm hm=>aa (.inl ⟨(m,LC (i - 1)),rfl,?_,?_⟩)
  ·refine ad (cY (eh (by omega) h2)) λx _=>?_
   refine ad (P:=λ_=>True) ?_ λq _=>?_
   ·repeat' (first | exact⟨_,rfl,trivial⟩ | refine ae (λ_=>?_) (λ_=>?_))
   refine ae (λ_=>?_) λ_=>aa (by omega)
   rw[ao (by simp;omega) (by omega),K_]
   exact aa (by simp)
  ·rw[aj (x:=i - 1) (by omega) (by omega)];dsimp only;omega
  ·rw[aj (x:=i - 1) (by omega) (by omega)];dsimp only;omega
 ·refine ad (P:=Inv (N+200)) ?_ λt ht=>aa ht
  refine az (λ(t:JG) i=>(t,i)) l.length (λk t=>Inv (N+k) t) (step:=aZ label l) (by omega) ?_ ?_ (s:=s) h
  ·intro k hk t ht;unfold aZ;dsimp only;rw[ah hk,cond_true];refine ad (P:=Inv (N+(k+1))) ?_ λu hu=>aa (.inl ⟨u,rfl,hu⟩);rw[aC hk,K_,La hk,K_,fP ht.z,K_]
   cases hc:cN t l[k].Id with
   | none=>exact aa (ht.mono (by omega))
   | some c=>
    simp only[Option.elim,PG,cond_false];rw[oq ht.z,K_,gL ht.sb,K_];refine ad (EH ht c) λx5 _=>?_;rw[K_];refine ad (G2 ht label _) λx7 _=>?_;refine ae (λ_=>?_) λ_=>?_
    ·exact ad (xZ ht (ids:=[c.Id]) (by simp;omega)) λu hu=>aa hu
    ·exact ad (xI ht c.Id 0 ⟨YG _,by unfold imax;split<;>omega⟩) λu hu=>aa (hu.1.mono (by omega))
  ·intro t ht;unfold aZ;dsimp only;rw[am]
   exact aa ⟨t,rfl,ht.mono (by omega)⟩
theorem C3{s t:JG}(h:M4 s)(h':M4 t):Gv (cR s t) λ_=>True:=by
 have hc:=h.c;unfold cR;refine ad (P:=λ_=>True) ?_ λ_ _=>aa trivial
 refine az (λ(l:List Int) i=>(l,i)) s.Kl.length (λk l=>l.length≤k) (step:=b9 s t) (by omega) ?_ ?_ (s:=[]) (by simp)
 ·intro k hk l hl;unfold b9;dsimp only;rw[ah hk,cond_true,ai hk,K_,fP h',K_];refine ad (P:=λm=>m.length≤k+1) ?_ λm hm=>aa (.inl ⟨m,rfl,hm⟩)
  refine ae (λ_=>?_) λ_=>aa (by omega)
  rw[K_,ao (by simp;omega) (by omega),K_]
  exact aa (by simp;omega)
 ·intro l hl;unfold b9;rw[am];exact aa ⟨l,rfl,trivial⟩
theorem IH{N:Nat}(hN:N≤800000){s:JG}(h:Inv N s):Gv (cD s) λr=>Inv (N+600) r.1:=by
 unfold cD;refine ad (P:=Inv (N+600)) ?_ λt ht=>ad (C3 h.z ht.z) λ_ _=>aa ht
 refine jA (λt:JG×Int=>0≤t.2∧t.2≤3∧Inv (N+200*t.2.toNat) t.1) (λt=>(3 - t.2).toNat) ?_ (by dsimp only;exact⟨by omega,by omega,h⟩)
 rintro⟨t,i⟩ ⟨h1,h2,ht⟩;dsimp only at h1 h2 ht;have hlb:=ht.cf.lab;unfold bT;dsimp only
 refine ae (λhlt=>?_) λ_=>aa (.inr ⟨_,rfl,ht.mono (by omega)⟩)
 simp only[decide_eq_true_eq]at hlt
 refine ad (JU (by omega) ht i) λu hu=>?_
 refine ad (Jd hu i) λl hl=>?_;refine ad (P:=Inv (N+200*i.toNat+200)) ?_ λv hv=>aa (.inl ⟨(v,LC (i+1)),rfl,?_,?_⟩)
 ·refine az (λ(t:JG) i=>(t,i)) l.length (λ_ t=>Inv (N+200*i.toNat+200) t) (step:=ba l) (by omega) ?_ ?_ (s:=u) hu
  ·intro k hk t ht;unfold ba;dsimp only;rw[ah hk,cond_true,aC hk,K_,La hk,K_]
   exact ad (xI ht _ _ ⟨by unfold imax;split<;>omega,YG _⟩) λu hu=>aa (.inl ⟨u,rfl,hu.1⟩)
  ·intro t ht;unfold ba;dsimp only;rw[am];exact aa ⟨t,rfl,ht⟩
 ·rw[aj (x:=i+1) (by omega) (by omega)]
  dsimp only
  exact⟨by omega,by omega,hv.mono (by omega)⟩
 ·rw[aj (x:=i+1) (by omega) (by omega)];dsimp only;omega
theorem MJ.at_{N:Nat}{s:JG}(h:MJ Z9 N s){t:Int}(ht:s.Now≤t∧0≤t∧t≤1000000000)(hN:t≤(N:Int)):Inv N ⟨s.Lg,s.Lu,s.Lv,s.Kl,s.LH,s.LJ,t,s.L8,s.Seq⟩:=
 ⟨h.cf,h.nl,h.ns,h.nk,h.al,h.Rb,h.ak,h.cl,h.cs,λc hc=>⟨(h.ck c hc).size,(h.ck c hc).app,(h.ck c hc).label,(h.ck c hc).id⟩,h.ss,h.sk,h.pl,h.ps,h.pk,ht.2,h.ep,h.sq,⟨h.en.1,hN,h.en.2.2⟩,h.sd.Xa,h.sd.S9,h.sd.slt,λc hc=>by
  have h1:=h.sd.Vq c hc
  have h2:imax s.Now 1≤imax t 1:=by unfold imax;split<;>split<;>omega
  exact⟨h1.1,Int.le_trans h1.2 h2⟩,h.sd.fit,h.sd.one⟩
theorem JS{s:JG}(h:M4 s)(i:Int):Gv (kK s i) λ_=>True:=by
 have hc:=h.c;unfold kK;refine ad (P:=λ_=>True) ?_ ?_
 ·refine az (λ(_:Unit) i=>i) s.Kl.length (λ_ _=>True) (step:=gR s i) (by omega) ?_ ?_ (s:=()) trivial
  ·intro k hk _ _;unfold gR;rw[ah hk,cond_true];simp only[ai hk,K_];refine ad (P:=λ_=>True) ?_ λq _=>?_
   ·repeat' (first | exact⟨_,rfl,trivial⟩ | refine ae (λ_=>?_) (λ_=>?_))
   exact ae (λ_=>aa (.inr ⟨_,rfl,trivial⟩)) λ_=>aa (.inl ⟨(),rfl,trivial⟩)
  ·intro _ _;unfold gR;rw[am];exact aa ⟨_,rfl,trivial⟩
 ·rintro(q | q) _
  ·exact aa trivial
  ·exact aa trivial
theorem C9{s:JG}(h:M4 s):Gv (jV s) λl=>l.length≤s.Lu.length:=by
 have hc:=h.n;unfold jV;refine ad (P:=λl=>l.length≤s.Lu.length) ?_ λl hl=>aa hl
 refine az (λ(l:List Int) i=>(l,i)) s.Lu.length (λk l=>l.length≤k) (step:=fR s) (by omega) ?_ ?_ (s:=[]) (by simp)
 ·intro k hk l hl;unfold fR;dsimp only;rw[ah hk,cond_true];simp only[ai hk,K_];refine ad (P:=λm=>m.length≤k+1) ?_ λm hm=>aa (.inl ⟨m,rfl,hm⟩);refine ad (P:=λ_=>True) ?_ λq _=>?_
  ·repeat' (first | exact⟨_,rfl,trivial⟩ | refine ae (λ_=>?_) (λ_=>?_))
  refine ae (λ_=>?_) λ_=>aa (by omega)
  rw[ao (by simp;omega) (by omega),K_]
  exact aa (by simp;omega)
 ·intro l hl;unfold fR;rw[am];exact aa ⟨l,rfl,hl⟩
theorem BB{s:JG}(h:M4 s):Gv (ji s) λl=>l.length≤s.Lv.length:=by
 have hc:=h.a;unfold ji;refine ad (P:=λl=>l.length≤s.Lv.length) ?_ λl hl=>aa hl
 refine az (λ(l:List Int) i=>(l,i)) s.Lv.length (λk l=>l.length≤k) (step:=fh s) (by omega) ?_ ?_ (s:=[]) (by simp)
 ·intro k hk l hl;unfold fh;dsimp only;rw[ah hk,cond_true];simp only[ai hk,K_];refine ad (P:=λm=>m.length≤k+1) ?_ λm hm=>aa (.inl ⟨m,rfl,hm⟩);refine ad (P:=λ_=>True) ?_ λq _=>?_
  ·repeat' (first | exact⟨_,rfl,trivial⟩ | refine ae (λ_=>?_) (λ_=>?_))
  refine ae (λ_=>?_) λ_=>aa (by omega)
  rw[ao (by simp;omega) (by omega),K_]
  exact aa (by simp;omega)
 ·intro l hl;unfold fh;rw[am];exact aa ⟨l,rfl,hl⟩
theorem Kg{N:Nat}(hN:N≤500000){s:JG}(h:Inv N s)(n:Int):Gv (kM s n) λr=>Inv (N+3200) r.1:=by
 have hnl:=h.nl;have ady:=h.now;unfold kM;refine ad (P:=λb=>b=false→1≤n∧n≤100) ?_ λb hb=>?_
 ·refine ae (λ_=>aa (by simp)) λh1=>aa λh2=>?_
  simp only[decide_eq_false_iff_not]at h1 h2;omega
 refine ae (λ_=>aa (h.mono (by omega))) λhbf=>?_
 obtain⟨n1,n2⟩:=hb hbf
 rw[aj (x:=s.Now+n) (by omega) (by omega)]
 refine ae (λ_=>aa (h.mono (by omega))) λhle=>?_
 simp only[decide_eq_false_iff_not]at hle
 have h0:=(h.mono (Nat.le_add_right N 100)).at_ (t:=s.Now+n) ⟨by omega,by omega,by omega⟩ (by have:=h.en.2.1;omega)
 obtain⟨M,hM⟩:∃M,M=N+100:=⟨_,rfl⟩;rw[← hM]at h0;obtain⟨s0,hs0⟩:∃s0,s0=(⟨⟨s.Lg.Lm,s.Lg.Lh⟩,s.Lu,s.Lv,s.Kl,s.LH,s.LJ,s.Now+n,s.L8,s.Seq⟩:JG):=⟨_,rfl⟩
 have h0:Inv M s0:=by rw[hs0];exact h0
 have ao0:s0.Lu=s.Lu:=by rw[hs0]
 rw[← hs0];clear hs0;refine ad (C9 h0.z) λl hl=>?_;rw[ao0]at hl;refine ad (P:=Inv (M+200*12)) ?_ λs1 hs1=>?_
 ·refine az (λ(t:JG) i=>(t,i)) l.length (λk t=>Inv (M+200*k) t) (step:=gO l) (by omega) ?_ ?_ (s:=s0) h0
  ·intro k hk t ht;unfold gO;dsimp only;rw[ah hk,cond_true];simp only[aC hk,K_,La hk];refine ad (Jn ht _) λu hu=>?_;rw[rq hu.z,K_];have hv:=hu.noSlot l[k];rw[DE hv.z,K_]
   have hlen:(((Pp u l[k]).Kl.filter λc=>c.LG == l[k]).map (·.Id)).length≤200:=by rw[PI];exact P6 (TP _ _) hv.cl
   have hin:∀c∈(Pp u l[k]).Kl,c.LG=l[k]→c.Id∈((Pp u l[k]).Kl.filter λc=>c.LG == l[k]).map (·.Id):=λc hc e=>QdX (Ta.2 ⟨hc,by simpa using e⟩)
   have hsl:∀x∈(Pp u l[k]).LH,x.LG≠l[k]:=λx hx=>by simpa using(Ta.1 hx).2
   generalize((Pp u l[k]).Kl.filter λc=>c.LG == l[k]).map (·.Id)=ids at hlen hin ⊢;generalize Pp u l[k]=w at hv hin hsl ⊢
   have hL:=wd hv (ids:=ids) (by omega)
   refine ad hL λz hz=>aa (.inl ⟨z,rfl,?_⟩);obtain⟨hz,hl2⟩:=hz
   have hz2:MJ (exN l[k]) (M+200*(k+1)) z:=hz.mono (by omega)
   refine MJ.relax (E':=Z9) hz2 (λc hc e=>?_) (λx hx e=>?_) λ_ _ _ e=>e
   ·have e:c.LG=l[k]:=e;obtain⟨c1,c2⟩:=hl2.ct c hc;exact(c2 (hin c c1 e)).elim
   ·have e:x.LG=l[k]:=e;exact(hsl x (hl2.sl x hx) e).elim
  ·intro t ht;unfold gO;dsimp only;rw[am]
   exact aa ⟨t,rfl,ht.mono (by omega)⟩
 ·refine ad (BB hs1.z) λl1 hl1=>?_;have hal:=hs1.al;refine ad (P:=Inv (M+200*12+16)) ?_ λs2 hs2=>?_
  ·refine az (λ(t:JG) i=>(t,i)) l1.length (λk t=>Inv (M+200*12+k) t) (step:=hG l1) (by omega) ?_ ?_ (s:=s1) hs1
   ·intro k hk t ht;unfold hG;dsimp only;rw[ah hk,cond_true,aC hk,K_,La hk,K_];refine ad (JS ht.z _) λx10 _=>?_
    exact ad (xZ ht (ids:=[x10]) (by simp;omega)) λu hu=>aa (.inl ⟨u,rfl,hu⟩)
   ·intro t ht;unfold hG;dsimp only;rw[am]
    exact aa ⟨t,rfl,ht.mono (by omega)⟩
  ·have hpl:=hs2.pl
   have e:=bQ (λ(l:List MV) i=>(l,i)) s2.LJ (λp=>decide (p.Until>s2.Now)) id (step:=gT s2) (by omega) ?_ ?_
   ·rw[e,K_,QfA];have h3:=hs2.plans (ps:=s2.LJ.filter λp=>decide (p.Until>s2.Now)) QdC
    refine ad (IH (by omega) h3) λr hr=>?_
    exact ad (C3 h.z hr.z) λ_ _=>aa (hr.mono (by omega))
   ·intro k hk l hl;unfold gT;dsimp only;rw[ah hk,cond_true,ai hk,K_]
    cases hp:decide (s2.LJ[k].Until>s2.Now)
    ·rfl
    ·rw[cond_true,K_,ao (by simp;omega) (by omega)]
     rfl
   ·intro l;unfold gT;rw[am];rfl
structure WR(x:Input):Prop where
 ids:x.Ids.length≤1000
 asks:x.Mq.length≤1000
 user:0≤x.LM.User∧x.LM.User≤2
 txt:∀b∈x.Text,b≠45
theorem Cl{N:Nat}(hN:N≤500000){s:JG}(h:Inv N s){x:Input}(hx:WR x):Gv (gq s x) λr=>Inv (N+4000) r.1:=by
 have m:∀{t:JG},Inv N t→Inv (N+4000) t:=λht=>ht.mono (by omega)
 unfold gq;refine ae (λ_=>ad (Em h _ hx.txt) λr hr=>aa (m hr)) λ_=>?_;refine ae (λ_=>ad (BR h _) λr hr=>aa (m hr)) λ_=>?_
 refine ae (λ_=>ad (Jx (by omega) h x hx.ids) λr hr=>aa (hr.mono (by omega))) λ_=>?_
 refine ae (λ_=>ad (Fh h _ hx.user) λr hr=>aa (m hr)) λ_=>?_
 refine ae (λ_=>ad (E9 (by omega) h x hx.ids hx.asks) λr hr=>aa (m hr)) λ_=>?_
 refine ae (λ_=>ad (Fc h _ _ (.inl rfl)) λr hr=>aa (m hr)) λ_=>?_;refine ae (λ_=>ad (Fc h _ _ (.inr rfl)) λr hr=>aa (m hr)) λ_=>?_
 refine ae (λ_=>ad (Kg hN h _) λr hr=>aa (hr.mono (by omega))) λ_=>?_
 refine ae (λ_=>ad (Gf h _ _) λr hr=>aa (m hr)) λ_=>?_;refine ae (λ_=>ad (JX h _) λr hr=>aa (m hr)) λ_=>?_;refine ae (λ_=>?_) λ_=>aa (m h)
 refine ae (λ_=>aa (m h)) λhe=>aa (MJ.mono (E:=Z9) (N:=N+1) ?_ (by omega))
 simp only[decide_eq_false_iff_not]at he;have hep:=h.ep;have hsq:=h.sq
 rw[aj (x:=s.L8+1) (by omega) (by omega)]
 refine⟨h.cf,h.nl,h.ns,h.nk,h.al,h.Rb,(MJ.mono h (QfR N)).ak,h.cl,h.cs,λc hc=>?_,h.ss,h.sk,h.pl,h.ps,h.pk,h.now,by dsimp only;omega,by dsimp only;omega,⟨by have:=h.en.1;show s.L8+1≤((N+1:Nat):Int);omega,by have:=h.en.2.1;show s.Now≤((N+1:Nat):Int);omega,λa ha=>⟨(h.en.2.2 a ha).1,λg hg=>by have:=(h.en.2.2 a ha).2 g hg;show g≤(s.L8+1)*1048576+0;omega⟩⟩,h.sd.Xa,h.sd.S9,h.sd.slt,h.sd.Vq,h.sd.fit,h.sd.one⟩
 have:=h.ck c hc;have hid:=this.id
 exact⟨this.size,this.app,this.label,by dsimp only;omega⟩
end Go.Fx.D
