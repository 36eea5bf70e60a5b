/-
  The reference manager: what holds of its state after every script. Conditions: none.
-/
import Derived.Test.YtdickabkndfjhaaGreatS11
namespace Go.Fx.D
open Go Go.Fx
set_option linter.unusedVariables false
set_option linter.unusedSimpArgs false
def iz(a:LM):Ask:=⟨0,0,⟨a.Lp.Mem,a.Lp.LA⟩,1,-1,-1,0⟩
theorem yO{c:Lg}(hc:Nj c){a:LM}(h:RJ a.Lp):NM c (iz a):=⟨by have:=hc.lab;show 0≤(0:Int)∧(0:Int)<c.Lm.length;omega,h,by show 1≤(1:Int)∧(1:Int)≤50;omega⟩
theorem MJ.reset{E:SA}{N:Nat}{s:JG}(h:MJ E N s){a b:LM}(ha:a∈s.Lv)(hid:b.Id=a.Id)(hb:PD N s.Lg b)(hg:GrS s.L8 s.Seq b)(hst:b.JG≠2):MJ E N (UR (Pe s b) a.Id):=by
 have h1:=h.an3 a.Id
 have h2:MJ (exA E a.Id) N (Pe (UR s a.Id) b):=h1.aaB ⟨a,ha,hid.symm,λe=>absurd e hst⟩ hb hg (.inr λc hc e=>by have:=(Ta.1 hc).2;rw[hid]at e;simp[e]at this)
 refine MJ.relax (E':=E) h2 (λ_ _ e=>e) (λ_ _ e=>e) λx hx e2 ex=>?_;rcases ex with ex | ex
 ·exact ex
 ·rcases(aS h.Rb).1 hx with rfl | ⟨hx,hne⟩
  ·exact absurd e2 hst
  ·exact absurd (by omega) hne
theorem lR{s:JG}{i:Int}{c:Lx}(h:cN s i=some c):c∈s.Kl∧c.Id=i:=nT h
structure NW(s t:JG)(ids:List Int):Prop where
 nd:t.Lu=s.Lu
 ct:∀c∈t.Kl,c∈s.Kl∧c.Id∉ids
 sl:∀x∈t.LH,x∈s.LH
theorem Hi{E:SA}{N:Nat}(hN:N≤1000000){s:JG}(h:MJ E N s)(i:Int):Gv ((bv s i).bind λx1=>
   bif ! x1.2 then
    some s
   else
    (aK s x1.1.LM).bind λx2=>
    bif x1.1.Lp then
     (jT x2.1).bind λx3=>
     (aO s (⟨x2.1.Id,1,x2.1.Ls,x2.1.User,x2.1.LD,⟨x2.1.Lp.Mem,x2.1.Lp.LA⟩,x3,s.Now,0,[],[],[],[]⟩:LM)).bind λx4=>
     (dQ x4 x1.1.LM).bind λx5=>
     some x5.1
    else
     (dR s x1.1.Id).bind λx6=>
     (cH x2.1.MC x1.1.Id).bind λx7=>
     (
      bif ! x7.2 then
       (app 8 [] x2.1.Np).bind λl=>
       (app 8 l [x1.1.Id]).bind λl1=>
       some (⟨x2.1.Id,x2.1.JG,x2.1.Ls,x2.1.User,x2.1.LD,⟨x2.1.Lp.Mem,x2.1.Lp.LA⟩,x2.1.Mq,x2.1.NV,x2.1.Nc,x7.1,l1,x2.1.Told,x2.1.NW⟩:LM)
      else
       some (⟨x2.1.Id,x2.1.JG,x2.1.Ls,x2.1.User,x2.1.LD,⟨x2.1.Lp.Mem,x2.1.Lp.LA⟩,x2.1.Mq,x2.1.NV,x2.1.Nc,x7.1,x2.1.Np,x2.1.Told,x2.1.NW⟩:LM)).bind λa=>
     (aO x6 a).bind λx8=>
     some x8) (λt=>MJ E (N+1) t∧NW s t [i]):=by
 rw[fP h.z,K_]
 cases hc:cN s i with
 | none=>exact aa ⟨h.mono (by omega),rfl,λc hcc=>⟨hcc,by have:=so hc c hcc;simpa using this⟩,λx hx=>hx⟩
 | some c=>
  obtain⟨hcm,hci⟩:=lR hc;obtain⟨a,ha,e1,e2⟩:=(h.ck c hcm).app;have hak:=h.ak a ha;simp only[Option.elim,PG,cond_false];rw[dJ h.z,← e1,h.M9 ha,K_];simp only[Option.elim];refine ae (λ_=>?_) λhnm=>?_
  ·show Gv ((some [iz a]).bind _) _;rw[K_];refine ad (P:=λt=>t=Pe s ⟨a.Id,1,a.Ls,a.User,a.LD,⟨a.Lp.Mem,a.Lp.LA⟩,[iz a],s.Now,0,[],[],[],[]⟩) (bY (oi h.z _) rfl) ?_;rintro t rfl
   have hok:PD N s.Lg ⟨a.Id,1,a.Ls,a.User,a.LD,⟨a.Lp.Mem,a.Lp.LA⟩,[iz a],s.Now,0,[],[],[],[]⟩:=
    ⟨by dsimp only;omega,hak.user,hak.Lf,λ_=>hak.leaf (.inr e2),hak.X9,by simp,λx hx=>by
     have:x=iz a:=by simpa using hx
     subst this
     exact yO h.cf hak.X9,by simp,by simp,by simp,by simp,by simp⟩
   have hz:M4 (Pe s ⟨a.Id,1,a.Ls,a.User,a.LD,⟨a.Lp.Mem,a.Lp.LA⟩,[iz a],s.Now,0,[],[],[],[]⟩):=by refine⟨h.z.n,?_,h.z.c,h.z.l,h.z.p⟩;have:=(mT (id:=λx:LM=>x.Id) (l:=s.Lv) (a:=⟨a.Id,1,a.Ls,a.User,a.LD,⟨a.Lp.Mem,a.Lp.LA⟩,[iz a],s.Now,0,[],[],[],[]⟩)).1;have h2:=h.al;show(N9 _ _ _).length≤100000;omega
   rw[xx hz,K_]
   have hr:=h.reset (b:=⟨a.Id,1,a.Ls,a.User,a.LD,⟨a.Lp.Mem,a.Lp.LA⟩,[iz a],s.Now,0,[],[],[],[]⟩) ha rfl hok ⟨by simp,by simp⟩ (by show(1:Int)≠2;omega)
   refine aa ⟨hr.mono (by omega),rfl,λd hd=>?_,λx hx=>(Ta.1 hx).1⟩
   obtain⟨d1,d2⟩:=Ta.1 hd;refine⟨d1,λe=>?_⟩;rw[Ld]at e
   have:=gC (id:=λx:Lx=>x.Id) h.cs d1 hcm (by omega)
   subst this;rw[e1]at d2;simp at d2
  ·rw[x_ h.z,K_,sK (by have:=hak.gr;omega),K_]
   have hA:=h.away c.Id λd hd e=>by
    have:=gC (id:=λx:Lx=>x.Id) h.cs hd hcm (by omega)
    subst this;exact hnm
   have hgl:(a.MC.filter λx=>x != c.Id).length≤a.MC.length:=TP _ _
   have hgf:(a.MC.filter λx=>x != c.Id).Pairwise (λx y=>x<y)∧∀g∈a.MC.filter λx=>x != c.Id,g≤s.L8*1048576+s.Seq:=
    ⟨(h.en.2.2 a ha).1.sublist QdC,λg hg=>(h.en.2.2 a ha).2 g (Ta.1 hg).1⟩
   refine ad (P:=λb=>b.Id=a.Id∧b.JG=2∧PD (N+1) s.Lg b∧GrS s.L8 s.Seq b) ?_ ?_
   ·refine ae (λ_=>?_) λ_=>?_
    ·rw[ao (by have:=hak.ki;simp;omega) (by omega),K_,ao (by have:=hak.ki;simp;omega) (by omega),K_]
     refine aa ⟨rfl,e2,⟨hak.st,hak.user,hak.Lf,hak.leaf,hak.X9,hak.al,hak.ask,by have:=hak.gr;dsimp only;omega,by have:=hak.ki;simp;omega,Yd hak.to,Yd hak.lo,hak.ap⟩,hgf⟩
    ·exact aa ⟨rfl,e2,⟨hak.st,hak.user,hak.Lf,hak.leaf,hak.X9,hak.al,hak.ask,by have:=hak.gr;dsimp only;omega,Yd hak.ki,Yd hak.to,Yd hak.lo,hak.ap⟩,hgf⟩
   ·rintro b ⟨b1,b2,b3,b4⟩;rw[oi hA.z,K_];refine aa ⟨(hA.mono (QfR N)).aaB ⟨a,ha,b1.symm,λ_=>e2⟩ b3 b4 (.inl b2),rfl,λd hd=>?_,λx hx=>hx⟩;obtain⟨d1,d2⟩:=Ta.1 hd;refine⟨d1,λe=>?_⟩;rw[Ld]at e;rw[e,hci]at d2;simp at d2
theorem wd{E:SA}{N:Nat}{s:JG}(h:MJ E N s){ids:List Int}(hN:N+ids.length≤1000000):Gv (bB s ids) λt=>MJ E (N+ids.length) t∧NW s t ids:=by
 unfold bB;refine ad (P:=λt=>MJ E (N+ids.length) t∧NW s t ids) ?_ λt ht=>aa ht
 refine az (λ(p:JG) i=>(p,i)) ids.length (λk p=>MJ E (N+k) p∧NW s p (ids.take k)) (step:=b_ ids) (by omega) ?_ ?_ (s:=s) ⟨h,rfl,λc hc=>⟨hc,by simp⟩,λx hx=>hx⟩
 ·rintro k hk t ⟨ht,hl⟩;unfold b_;rw[ah hk,cond_true];dsimp only;rw[ai hk,K_]
  refine ad (Hi (by omega) ht ids[k]) λu hu=>aa (.inl ⟨u,rfl,hu.1,hu.2.nd.trans hl.nd,λc hc=>?_,λx hx=>hl.sl x (hu.2.sl x hx)⟩)
  obtain⟨c1,c2⟩:=hu.2.ct c hc;obtain⟨c3,c4⟩:=hl.ct c c1;refine⟨c3,λe=>?_⟩;rw[Ra hk]at e;rcases N_.1 e with e | e
  ·exact c4 e
  ·exact c2 e
 ·rintro t ⟨ht,hl⟩;unfold b_;rw[am];rw[RB]at hl;exact aa ⟨t,rfl,ht,hl⟩
theorem xZ{E:SA}{N:Nat}{s:JG}(h:MJ E N s){ids:List Int}(hN:N+ids.length≤1000000):Gv (bB s ids) (MJ E (N+ids.length)):=nr (wd h hN) λ_ ht=>ht.1
theorem qA{s:JG}{i:Int}{n:LG}(h:l_ s i=some n):n∈s.Lu∧n.Id=i:=nT h
theorem Ic{N:Nat}{s:JG}(h:Inv N s)(i b:Int):Gv (li s i b) λr=>Inv N r.1:=by
 unfold li;rw[js h.z,K_]
 cases hn:l_ s i with
 | none=>exact aa h
 | some n=>obtain⟨hm,_⟩:=qA hn;simp only[Option.elim,PG,cond_false];refine ae (λ_=>aa h) λ_=>ae (λ_=>aa h) λ_=>ae (λ_=>aa h) λ_=>ae (λ_=>aa h) λ_=>?_;rw[uU h.z,K_];exact aa (h.aaA (.inl ⟨n,hm,rfl⟩) (h.nk n hm) (.inr ⟨n,hm,rfl,rfl,rfl,λe=>.inl e⟩))
def exN(i:Int):SA:=⟨λj=>j=i,λ_=>False⟩
theorem Jn{N:Nat}{s:JG}(h:Inv N s)(i:Int):Gv (lg s i) (MJ (exN i) N):=by
 have h':MJ (exN i) N s:=h.relax (λ_ _ e=>e.elim) (λ_ _ e=>e.elim) λ_ _ _ e=>e;unfold lg;rw[js h.z,K_]
 cases hn:l_ s i with
 | none=>exact aa h'
 | some n=>obtain⟨hm,hid⟩:=qA hn;simp only[Option.elim,PG,cond_false];rw[uU h.z,K_];exact aa (h'.aaA (.inl ⟨n,hm,rfl⟩) (h.nk n hm) (.inr ⟨n,hm,rfl,rfl,rfl,λ_=>.inr hid⟩))
theorem vS(n:Int):iw n=some (decide (0≤n)&&decide (n≤1073741824)):=by
 unfold iw;by_cases h:n≥0
 ·rw[decide_eq_true h];rfl
 ·rw[decide_eq_false h];rfl
theorem BR{N:Nat}{s:JG}(h:Inv N s)(n:LG):Gv (gH s n) λr=>Inv N r.1:=by
 unfold gH;refine ad (P:=λb=>b=false→VB 1073741824 n.Cap∧0≤n.Ll∧n.Ll<s.Lg.Lm.length) ?_ ?_
 ·refine ae (λ_=>aa (by simp)) λ_=>ae (λ_=>aa (by simp)) λ_=>ae (λ_=>aa (by simp)) λh1=>ae (λ_=>aa (by simp)) λh2=>
   ae (λ_=>aa (by simp)) λ_=>ae (λ_=>aa (by simp)) λ_=>?_
  rw[vS,K_]
  refine ae (λ_=>aa (by simp)) λh3=>?_
  rw[vS,K_];refine aa λh4=>?_;simp only[decide_eq_false_iff_not,QdU,Ng,decide_eq_true_eq]at h1 h2 h3 h4
  exact⟨⟨h3,h4⟩,by omega,by omega⟩
 ·intro b hb;refine ae (λ_=>aa h) λhbf=>?_;have hb:=hb hbf;rw[js h.z,K_]
  cases hn:l_ s n.Id with
  | none=>
   simp only[Option.elim,cond_false,K_,Wy,cond_true];refine ae (λ_=>aa h) λhlen=>?_;rw[uU h.z,K_];simp only[decide_eq_false_iff_not]at hlen;have h0:=so hn
   exact aa (h.aaA (.inr (by omega)) hb (.inl ⟨λc hc e=>by
    have e:c.LG=n.Id:=e;obtain⟨m,hm,e1,_⟩:=h.sd.S9 c hc
    exact h0 m hm (by omega),λx hx e=>by
    have e:x.LG=n.Id:=e;obtain⟨m,hm,e1⟩:=h.sk x hx
    exact h0 m hm (by omega)⟩))
  | some m=>
   obtain⟨hm,hid⟩:=qA hn;simp only[Option.elim,cond_true,K_,PG,cond_false];refine ae (λ_=>aa h) λhup=>?_;rw[uU h.z,K_]
   have hdn:∀k∈s.Lu,k.Id=n.Id→¬ (k.Up=true∨Z9.S9 k.Id):=λk hk e=>by
    have:=gC (id:=λx:LG=>x.Id) h.ns hk hm (by omega)
    subst this;rintro(e | e)
    ·rw[hup]at e;cases e
    ·exact e
   exact aa (h.aaA (.inl ⟨m,hm,hid⟩) hb (.inl ⟨λc hc e=>by
    have e:c.LG=n.Id:=e;obtain⟨k,hk,e1,_,e3⟩:=h.sd.S9 c hc
    exact hdn k hk (by omega) e3,λx hx e=>by
    have e:x.LG=n.Id:=e;obtain⟨k,hk,e1,e3⟩:=h.sd.slt x hx
    exact hdn k hk (by omega) e3⟩))
theorem pQ(p:LM→Bool):∀(l z:List LM)(d:Bool),l.foldl (λ(t:List LM×Bool) x=>if(!t.2&&p x)=true then(t.1,true)else(t.1++[x],t.2)) (z,d)=(z++(if d=true then l else l.eraseP p),d||l.any p)
 | [],z,d=>by cases d<;>simp
 | x::l,z,d=>by
  rw[TN]
  cases d with
  | true=>
   rw[if_neg (by simp),pQ p l]
   simp
  | false=>
   cases hp:p x with
   | true=>
    rw[if_pos (by simp),pQ p l]
    simp[hp]
   | false=>
    rw[if_neg (by simp),pQ p l]
    simp[hp]
theorem FI{s:JG}(h:M4 s):jh s=some ⟨s.Lg,s.Lu,s.Lv.eraseP λa=>!Mt a,s.Kl,s.LH,s.LJ,s.Now,s.L8,s.Seq⟩:=by
 unfold jh;have hn:=h.a
 have e:=(bF (λ(t:List LM×Bool) i=>(t.1,t.2,i)) s.Lv (λ(t:List LM×Bool) x=>if(!t.2&&!Mt x)=true then(t.1,true)else(t.1++[x],t.2)) (λk t=>t.1.length≤k) (λt=>t.1)
  (step:=fm s) (by omega) ?_ ?_ (s:=([],false)) (by simp)).1
 ·rw[e,pQ (λa=>!Mt a),K_];simp
 ·rintro k hk ⟨l,d⟩ hl;dsimp only at hl ⊢
  refine⟨?_,by split<;>(try simp)<;>omega⟩
  unfold fm;dsimp only;rw[ah hk,cond_true,ai hk,K_,jy,K_]
  cases d<;>cases Mt s.Lv[k] <;>
   simp[ao (b:=200) (l:=l) (m:=[s.Lv[k]]) (by simp;omega) (by omega)]
 ·rintro⟨l,d⟩ _;unfold fm;dsimp only;rw[am];rfl
theorem MJ.forget{N:Nat}{s:JG}(h:MJ Z9 N s):Inv N ⟨s.Lg,s.Lu,s.Lv.eraseP λa=>!Mt a,s.Kl,s.LH,s.LJ,s.Now,s.L8,s.Seq⟩:=by
 have hs:(s.Lv.eraseP λa=>!Mt a).Sublist s.Lv:=List.eraseP_sublist;refine⟨h.cf,h.nl,h.ns,h.nk,P6 hs.length_le h.al,h.Rb.sublist hs,λa ha=>h.ak a (hs.subset ha),h.cl,h.cs,λc hc=>?_,h.ss,h.sk,h.pl,h.ps,h.pk,h.now,h.ep,h.sq,⟨h.en.1,h.en.2.1,λa ha=>h.en.2.2 a (hs.subset ha)⟩,h.sd.Xa,h.sd.S9,h.sd.slt,h.sd.Vq,h.sd.fit,λa ha e=>h.sd.one a (hs.subset ha) e⟩;have:=h.ck c hc;refine⟨this.size,?_,this.label,this.id⟩;obtain⟨a,ha,e1,e2⟩:=this.app;refine⟨a,?_,e1,e2⟩
 exact(List.mem_eraseP_of_neg (by unfold Mt;simp[e2])).2 ha
theorem tu(n:Int):fZ n=some (decide (1≤n)&&decide (n≤1073741824)):=by
 unfold fZ;by_cases h:n≥1
 ·rw[decide_eq_true h];rfl
 ·rw[decide_eq_false h];rfl
theorem BO{s:JG}(h:M4 s):loop (dc s) (0,0)=some ((s.Lv.filter Mt).length:Int):=by
 have hn:=h.a
 have e:=(bF (λ(t:Int) i=>(t,i)) s.Lv (λt x=>if Mt x=true then t+1 else t) (λk t=>0≤t∧t≤k) (λt=>t) (step:=dc s) (by omega) ?_ ?_ (s:=0) (by simp)).1
 ·rw[e]
  have gen:∀(l:List LM)(z:Int),l.foldl (λt x=>if Mt x=true then t+1 else t) z=z+((l.filter Mt).length:Int):=by
   intro l
   induction l with
   | nil=>intro z;simp
   | cons x l ih=>
    intro z;rw[TN,ih,Xc];split
    ·simp;omega
    ·rfl
  rw[gen,Int.zero_add]
 ·intro k hk t ht
  refine⟨?_,by split<;>omega⟩
  unfold dc;dsimp only;rw[ah hk,cond_true,ai hk,K_,jy,K_]
  cases Mt s.Lv[k]
  ·rfl
  ·simp only[cond_true,K_,if_true]
   rw[aj (x:=t+1) (by omega) (by omega)]
 ·intro t _;unfold dc;rw[am];rfl
theorem Fh{N:Nat}{s:JG}(h:Inv N s)(a:LM)(hu:0≤a.User∧a.User≤2):Gv (jd s a) λr=>Inv N r.1:=by
 unfold jd;refine ad (P:=λb=>b=false→RJ a.Lp) ?_ ?_
 ·refine ae (λ_=>aa (by simp)) λ_=>ae (λ_=>aa (by simp)) λ_=>ae (λ_=>aa (by simp)) λh1=>ae (λ_=>aa (by simp)) λh2=>
   ae (λ_=>aa (by simp)) λ_=>ae (λ_=>aa (by simp)) λ_=>?_
  rw[tu,K_]
  refine ae (λ_=>aa (by simp)) λh3=>?_
  rw[tu,K_];refine aa λh4=>?_;simp only[QdU,Ng,decide_eq_true_eq]at h3 h4;exact⟨h3,h4⟩
 ·intro b hb;refine ae (λ_=>aa h) λhbf=>?_;have hb:=hb hbf;rw[dJ h.z,K_]
  cases hn:M9 s a.Id with
  | some m=>exact aa h
  | none=>
   have hno:=so hn;simp only[Option.elim,cond_false];rw[BO h.z,K_];refine ae (λ_=>aa h) λhlv=>?_;rw[uS h.cf.small,K_];refine ae (λ_=>aa h) λUd=>?_
   have Ud:Nu s.Lg a.Ls=true:=by simpa using Ud
   simp only[decide_eq_false_iff_not]at hlv;refine ad (P:=λt=>Inv N t∧t.Lv.length<16∧(∀x∈t.Lv,x∈s.Lv)∧t.Lg=s.Lg) ?_ ?_
   ·refine ae (λhge=>?_) λhlt=>?_
    ·rw[FI h.z,K_];refine aa ⟨h.forget,?_,λx hx=>List.eraseP_sublist.subset hx,rfl⟩
     have hex:∃x∈s.Lv,(!Mt x)=true:=by
      apply Classical.byContradiction;intro hne
      have:s.Lv.filter Mt=s.Lv:=QeN.2 λx hx=>by
       cases hp:Mt x with
       | true=>rfl
       | false=>exact absurd ⟨x,hx,by rw[hp];rfl⟩ hne
      rw[this]at hlv;simp only[decide_eq_true_eq]at hge;omega
     obtain⟨x,hx,hp⟩:=hex;have hl:=List.length_eraseP_of_mem (p:=λa=>!Mt a) hx hp;have h2:=h.al;show(s.Lv.eraseP _).length<16;have hpos:=QeR hx;omega
    ·simp only[decide_eq_false_iff_not]at hlt
     exact aa ⟨h,by omega,λx hx=>hx,rfl⟩
   ·rintro t ⟨ht,htl,hts,htc⟩;show Gv ((some [iz a]).bind _) _;rw[K_,oi ht.z,K_];refine aa ?_;have hno':∀x∈t.Lv,x.Id≠a.Id:=λx hx=>hno x (hts x hx)
    have hok:PD N t.Lg ⟨a.Id,1,a.Ls,a.User,a.LD,⟨a.Lp.Mem,a.Lp.LA⟩,[iz a],t.Now,0,[],[],[],[]⟩:=
     ⟨by dsimp only;omega,hu,kC h.cf Ud,λ_=>by rw[htc];exact Ud,hb,by simp,λx hx=>by
      have:x=iz a:=by simpa using hx
      subst this
      exact yO ht.cf hb,by simp,by simp,by simp,by simp,by simp⟩
    refine⟨ht.cf,ht.nl,ht.ns,ht.nk,?_,mu ht.Rb,?_,ht.cl,ht.cs,?_,ht.ss,ht.sk,ht.pl,ht.ps,ht.pk,ht.now,ht.ep,ht.sq,⟨ht.en.1,ht.en.2.1,λx hx=>((aS ht.Rb).1 hx).elim (λe=>by subst e;exact⟨List.Pairwise.nil,λg hg=>by cases hg⟩) λhx=>ht.en.2.2 x hx.1⟩,ht.sd.Xa,ht.sd.S9,ht.sd.slt,ht.sd.Vq,ht.sd.fit,λx hx e=>?_⟩
    ·have:=(mT (id:=λx:LM=>x.Id) (l:=t.Lv) (a:=⟨a.Id,1,a.Ls,a.User,a.LD,⟨a.Lp.Mem,a.Lp.LA⟩,[iz a],t.Now,0,[],[],[],[]⟩)).1;show(N9 _ _ _).length≤16;omega
    ·intro x hx;rcases(aS ht.Rb).1 hx with rfl | ⟨hx,_⟩
     ·exact hok
     ·exact ht.ak x hx
    ·intro c hc;have:=ht.ck c hc;refine⟨this.size,?_,this.label,this.id⟩;obtain⟨b,hb,e1,e2⟩:=this.app;exact⟨b,(aS ht.Rb).2 (.inr ⟨hb,hno' b hb⟩),e1,e2⟩
    ·rcases(aS ht.Rb).1 hx with rfl | ⟨hx,_⟩
     ·have e:(1:Int)=2:=e;omega
     ·exact ht.sd.one x hx e
theorem K4{N:Nat}{s:JG}(h:Inv N s)(i st:Int)(hst:st=3∨st=4):Gv (kZ s i st) λr=>Inv N r.1:=by
 unfold kZ;rw[dJ h.z,K_]
 cases hn:M9 s i with
 | none=>exact aa h
 | some a=>
  obtain⟨ha,rfl⟩:=tM hn;have hak:=h.ak a ha;simp only[Option.elim,PG,cond_false];rw[jy,K_,K_];refine ae (λ_=>aa h) λ_=>?_
  have hz:∀b:LM,M4 (Pe s b):=by intro b;refine⟨h.z.n,?_,h.z.c,h.z.l,h.z.p⟩;have:=(mT (id:=λx:LM=>x.Id) (l:=s.Lv) (a:=b)).1;have h2:=h.al;show(N9 _ _ _).length≤100000;omega
  rw[oi h.z,K_,xx (hz _),K_]
  refine aa (h.reset ha rfl ⟨by dsimp only;omega,hak.user,hak.Lf,λe=>by dsimp only at e;omega,hak.X9,by simp,by simp,by simp,by simp,by simp,by simp,by simp⟩ ⟨by simp,by simp⟩ (by dsimp only;omega))
theorem Fc{N:Nat}{s:JG}(h:Inv N s)(i st:Int)(hst:st=3∨st=4):Gv (iy s i st) λr=>Inv N r.1:=by unfold iy;rw[dJ h.z,K_];refine ae (λ_=>aa h) λ_=>?_;rw[jy,K_];refine ae (λ_=>aa h) λ_=>?_;exact ad (K4 h i st hst) λr hr=>aa hr
end Go.Fx.D
