/-
  The reference manager: what holds of its state after every script. Conditions: none.
-/
import Derived.Test.YtdickabkndfjhaaGreatS11
namespace Go.Fx.D
open Go Go.Fx
set_option linter.unusedVariables false
set_option linter.unusedSimpArgs false
def dY(a:LD):Ask:=⟨0,0,⟨a.Lj.Mem,a.Lj.Lu⟩,1,-1,-1,0⟩
theorem yJ{c:Lf}(hc:Nj c){a:LD}(h:RB a.Lj):NI c (dY a):=⟨by have:=hc.lab;show 0≤(0:Int)∧(0:Int)<c.Lp.length;omega,h,by show 1≤(1:Int)∧(1:Int)≤50;omega⟩
theorem MI.reset{E:Sz}{N:Nat}{s:JF}(h:MI E N s){a b:LD}(ha:a∈s.Lr)(hid:b.Id=a.Id)(hb:Pw N s.Lf b)(hg:GrS s.L9 s.Seq b)(hst:b.JF≠2):MI E N (P9 (NA s b) a.Id):=by
 have h1:=h.anS a.Id
 have h2:MI (exA E a.Id) N (NA (P9 s a.Id) b):=h1.aai ⟨a,ha,hid.symm,λe=>absurd e hst⟩ hb hg (.inr λc hc e=>by have:=(PL.1 hc).2;rw[hid]at e;simp[e]at this)
 refine MI.relax (E':=E) h2 (λ_ _ e=>e) (λ_ _ e=>e) λx hx e2 ex=>?_;rcases ex with ex | ex
 ·exact ex
 ·rcases(aJ h.Px).1 hx with rfl | ⟨hx,hne⟩
  ·exact absurd e2 hst
  ·exact absurd (by omega) hne
theorem iH{s:JF}{i:Int}{c:Lv}(h:bJ s i=some c):c∈s.Lc∧c.Id=i:=nr h
structure N7(s t:JF)(ids:List Int):Prop where
 nd:t.Ls=s.Ls
 ct:∀c∈t.Lc,c∈s.Lc∧c.Id∉ids
 sl:∀x∈t.LG,x∈s.LG
theorem Ir{E:Sz}{N:Nat}(hN:N≤1000000){s:JF}(h:MI E N s)(i:Int):Gv ((a7 s i).bind λx1=>
   bif ! x1.2 then
    some s
   else
    (aG s x1.1.LD).bind λx2=>
    bif x1.1.Lj then
     (jB x2.1).bind λx3=>
     (aO s (⟨x2.1.Id,1,x2.1.Lm,x2.1.User,x2.1.LA,⟨x2.1.Lj.Mem,x2.1.Lj.Lu⟩,x3,s.Now,0,[],[],[],[]⟩:LD)).bind λx4=>
     (dB x4 x1.1.LD).bind λx5=>
     some x5.1
    else
     (dz s x1.1.Id).bind λx6=>
     (cq x2.1.Mv x1.1.Id).bind λx7=>
     (
      bif ! x7.2 then
       (app 8 [] x2.1.Nr).bind λl=>
       (app 8 l [x1.1.Id]).bind λl1=>
       some (⟨x2.1.Id,x2.1.JF,x2.1.Lm,x2.1.User,x2.1.LA,⟨x2.1.Lj.Mem,x2.1.Lj.Lu⟩,x2.1.Mr,x2.1.NZ,x2.1.Nf,x7.1,l1,x2.1.Told,x2.1.N7⟩:LD)
      else
       some (⟨x2.1.Id,x2.1.JF,x2.1.Lm,x2.1.User,x2.1.LA,⟨x2.1.Lj.Mem,x2.1.Lj.Lu⟩,x2.1.Mr,x2.1.NZ,x2.1.Nf,x7.1,x2.1.Nr,x2.1.Told,x2.1.N7⟩:LD)).bind λa=>
     (aO x6 a).bind λx8=>
     some x8) (λt=>MI E (N+1) t∧N7 s t [i]):=by
 rw[dR h.z,K8]
 cases hc:bJ s i with
 | none=>exact aa ⟨h.mono (by omega),rfl,λc hcc=>⟨hcc,by have:=qw hc c hcc;simpa using this⟩,λx hx=>hx⟩
 | some c=>
  obtain⟨hcm,hci⟩:=iH hc;obtain⟨a,ha,e1,e2⟩:=(h.ck c hcm).app;have hak:=h.ak a ha;simp only[Option.elim,PZ,cond_false];rw[co h.z,← e1,h.MV ha,K8];simp only[Option.elim];refine ae (λ_=>?_) λhnm=>?_
  ·show Gv ((some [dY a]).bind _) _;rw[K8];refine ad (P:=λt=>t=NA s ⟨a.Id,1,a.Lm,a.User,a.LA,⟨a.Lj.Mem,a.Lj.Lu⟩,[dY a],s.Now,0,[],[],[],[]⟩) (bO (nI h.z _) rfl) ?_;rintro t rfl
   have hok:Pw N s.Lf ⟨a.Id,1,a.Lm,a.User,a.LA,⟨a.Lj.Mem,a.Lj.Lu⟩,[dY a],s.Now,0,[],[],[],[]⟩:=
    ⟨by dsimp only;omega,hak.user,hak.Ld,λ_=>hak.leaf (.inr e2),hak.R6,by simp,λx hx=>by
     have:x=dY a:=by simpa using hx
     subst this
     exact yJ h.cf hak.R6,by simp,by simp,by simp,by simp,by simp,λ_ x hx=>by
     have:x=dY a:=by simpa using hx
     subst this;exact⟨rfl,rfl⟩⟩
   have hz:M_ (NA s ⟨a.Id,1,a.Lm,a.User,a.LA,⟨a.Lj.Mem,a.Lj.Lu⟩,[dY a],s.Now,0,[],[],[],[]⟩):=by refine⟨h.z.n,?_,h.z.c,h.z.l,h.z.p⟩;have:=(mq (id:=λx:LD=>x.Id) (l:=s.Lr) (a:=⟨a.Id,1,a.Lm,a.User,a.LA,⟨a.Lj.Mem,a.Lj.Lu⟩,[dY a],s.Now,0,[],[],[],[]⟩)).1;have h2:=h.al;show(NR _ _ _).length≤100000;omega
   rw[wU hz,K8]
   have hr:=h.reset (b:=⟨a.Id,1,a.Lm,a.User,a.LA,⟨a.Lj.Mem,a.Lj.Lu⟩,[dY a],s.Now,0,[],[],[],[]⟩) ha rfl hok ⟨by simp,by simp⟩ (by show(1:Int)≠2;omega)
   refine aa ⟨hr.mono (by omega),rfl,λd hd=>?_,λx hx=>(PL.1 hx).1⟩
   obtain⟨d1,d2⟩:=PL.1 hd;refine⟨d1,λe=>?_⟩;rw[Lb]at e
   have:=eL (id:=λx:Lv=>x.Id) h.cs d1 hcm (by omega)
   subst this;rw[e1]at d2;simp at d2
  ·rw[xh h.z,K8,rP (by have:=hak.gr;omega),K8]
   have hA:=h.away c.Id λd hd e=>by
    have:=eL (id:=λx:Lv=>x.Id) h.cs hd hcm (by omega)
    subst this;exact hnm
   have hgl:(a.Mv.filter λx=>x != c.Id).length≤a.Mv.length:=Um _ _
   have hgf:(a.Mv.filter λx=>x != c.Id).Pairwise (λx y=>x<y)∧∀g∈a.Mv.filter λx=>x != c.Id,g≤s.L9*1048576+s.Seq:=
    ⟨(h.en.2.2 a ha).1.sublist Wh,λg hg=>(h.en.2.2 a ha).2 g (PL.1 hg).1⟩
   refine ad (P:=λb=>(b.Id=a.Id∧b.Lj.Mem=a.Lj.Mem)∧b.JF=2∧Pw (N+1) s.Lf b∧GrS s.L9 s.Seq b) ?_ ?_
   ·refine ae (λ_=>?_) λ_=>?_
    ·rw[aj (by have:=hak.ki;simp;omega) (by omega),K8,aj (by have:=hak.ki;simp;omega) (by omega),K8]
     refine aa ⟨⟨rfl,rfl⟩,e2,⟨hak.st,hak.user,hak.Ld,hak.leaf,hak.R6,hak.al,hak.ask,by have:=hak.gr;dsimp only;omega,by have:=hak.ki;simp;omega,XA hak.to,XA hak.lo,hak.ap,hak.fst⟩,hgf⟩
    ·exact aa ⟨⟨rfl,rfl⟩,e2,⟨hak.st,hak.user,hak.Ld,hak.leaf,hak.R6,hak.al,hak.ask,by have:=hak.gr;dsimp only;omega,XA hak.ki,XA hak.to,XA hak.lo,hak.ap,hak.fst⟩,hgf⟩
   ·rintro b ⟨b1,b2,b3,b4⟩;rw[nI hA.z,K8];refine aa ⟨(hA.mono (QfU N)).aai ⟨a,ha,b1.1.symm,λ_=>⟨e2,b1.2.symm⟩⟩ b3 b4 (.inl b2),rfl,λd hd=>?_,λx hx=>hx⟩;obtain⟨d1,d2⟩:=PL.1 hd;refine⟨d1,λe=>?_⟩;rw[Lb]at e;rw[e,hci]at d2;simp at d2
theorem vu{E:Sz}{N:Nat}{s:JF}(h:MI E N s){ids:List Int}(hN:N+ids.length≤1000000):Gv (bn s ids) λt=>MI E (N+ids.length) t∧N7 s t ids:=by
 unfold bn;refine ad (P:=λt=>MI E (N+ids.length) t∧N7 s t ids) ?_ λt ht=>aa ht
 refine ay (λ(p:JF) i=>(p,i)) ids.length (λk p=>MI E (N+k) p∧N7 s p (ids.take k)) (step:=bS ids) (by omega) ?_ ?_ (s:=s) ⟨h,rfl,λc hc=>⟨hc,by simp⟩,λx hx=>hx⟩
 ·rintro k hk t ⟨ht,hl⟩;unfold bS;rw[ah hk,cond_true];dsimp only;rw[ai hk,K8]
  refine ad (Ir (by omega) ht ids[k]) λu hu=>aa (.inl ⟨u,rfl,hu.1,hu.2.nd.trans hl.nd,λc hc=>?_,λx hx=>hl.sl x (hu.2.sl x hx)⟩)
  obtain⟨c1,c2⟩:=hu.2.ct c hc;obtain⟨c3,c4⟩:=hl.ct c c1;refine⟨c3,λe=>?_⟩;rw[R3 hk]at e;rcases OB.1 e with e | e
  ·exact c4 e
  ·exact c2 e
 ·rintro t ⟨ht,hl⟩;unfold bS;rw[ar];rw[Sq]at hl;exact aa ⟨t,rfl,ht,hl⟩
theorem xx{E:Sz}{N:Nat}{s:JF}(h:MI E N s){ids:List Int}(hN:N+ids.length≤1000000):Gv (bn s ids) (MI E (N+ids.length)):=mH (vu h hN) λ_ ht=>ht.1
theorem p7{s:JF}{i:Int}{n:LB}(h:mR s i=some n):n∈s.Ls∧n.Id=i:=nr h
theorem Iz{N:Nat}{s:JF}(h:Inv N s)(i b:Int):Gv (kG s i b) λr=>Inv N r.1:=by
 unfold kG;rw[lX h.z,K8]
 cases hn:mR s i with
 | none=>exact aa h
 | some n=>obtain⟨hm,_⟩:=p7 hn;simp only[Option.elim,PZ,cond_false];refine ae (λ_=>aa h) λ_=>ae (λ_=>aa h) λ_=>ae (λ_=>aa h) λ_=>ae (λ_=>aa h) λ_=>?_;rw[uD h.z,K8];exact aa (h.aah (.inl ⟨n,hm,rfl⟩) (h.nk n hm) (.inr ⟨n,hm,rfl,rfl,rfl,λe=>.inl e⟩))
def exN(i:Int):Sz:=⟨λj=>j=i,λ_=>False⟩
theorem I4{N:Nat}{s:JF}(h:Inv N s)(i:Int):Gv (kz s i) (MI (exN i) N):=by
 have h':MI (exN i) N s:=h.relax (λ_ _ e=>e.elim) (λ_ _ e=>e.elim) λ_ _ _ e=>e;unfold kz;rw[lX h.z,K8]
 cases hn:mR s i with
 | none=>exact aa h'
 | some n=>obtain⟨hm,hid⟩:=p7 hn;simp only[Option.elim,PZ,cond_false];rw[uD h.z,K8];exact aa (h'.aah (.inl ⟨n,hm,rfl⟩) (h.nk n hm) (.inr ⟨n,hm,rfl,rfl,rfl,λ_=>.inr hid⟩))
theorem vn(n:Int):gY n=some (decide (0≤n)&&decide (n≤1073741824)):=by
 unfold gY;by_cases h:n≥0
 ·rw[decide_eq_true h];rfl
 ·rw[decide_eq_false h];rfl
theorem BG{N:Nat}{s:JF}(h:Inv N s)(n:LB):Gv (gy s n) λr=>Inv N r.1:=by
 unfold gy;refine ad (P:=λb=>b=false→VB 1073741824 n.Cap∧0≤n.Ll∧n.Ll<s.Lf.Lp.length) ?_ ?_
 ·refine ae (λ_=>aa (by simp)) λ_=>ae (λ_=>aa (by simp)) λ_=>ae (λ_=>aa (by simp)) λh1=>ae (λ_=>aa (by simp)) λh2=>
   ae (λ_=>aa (by simp)) λ_=>ae (λ_=>aa (by simp)) λ_=>?_
  rw[vn,K8]
  refine ae (λ_=>aa (by simp)) λh3=>?_
  rw[vn,K8];refine aa λh4=>?_;simp only[decide_eq_false_iff_not,QdU,Np,decide_eq_true_eq]at h1 h2 h3 h4
  exact⟨⟨h3,h4⟩,by omega,by omega⟩
 ·intro b hb;refine ae (λ_=>aa h) λhbf=>?_;have hb:=hb hbf;rw[lX h.z,K8]
  cases hn:mR s n.Id with
  | none=>
   simp only[Option.elim,cond_false,K8,Vn,cond_true];refine ae (λ_=>aa h) λhlen=>?_;rw[uD h.z,K8];simp only[decide_eq_false_iff_not]at hlen;have h0:=qw hn
   exact aa (h.aah (.inr (by omega)) hb (.inl ⟨λc hc e=>by
    have e:c.LB=n.Id:=e;obtain⟨m,hm,e1,_⟩:=h.sd.Ta c hc
    exact h0 m hm (by omega),λx hx e=>by
    have e:x.LB=n.Id:=e;obtain⟨m,hm,e1⟩:=h.sk x hx
    exact h0 m hm (by omega)⟩))
  | some m=>
   obtain⟨hm,hid⟩:=p7 hn;simp only[Option.elim,cond_true,K8,PZ,cond_false];refine ae (λ_=>aa h) λhup=>?_;rw[uD h.z,K8]
   have hdn:∀k∈s.Ls,k.Id=n.Id→¬ (k.Up=true∨ZN.Ta k.Id):=λk hk e=>by
    have:=eL (id:=λx:LB=>x.Id) h.ns hk hm (by omega)
    subst this;rintro(e | e)
    ·rw[hup]at e;cases e
    ·exact e
   exact aa (h.aah (.inl ⟨m,hm,hid⟩) hb (.inl ⟨λc hc e=>by
    have e:c.LB=n.Id:=e;obtain⟨k,hk,e1,_,e3⟩:=h.sd.Ta c hc
    exact hdn k hk (by omega) e3,λx hx e=>by
    have e:x.LB=n.Id:=e;obtain⟨k,hk,e1,e3⟩:=h.sd.slt x hx
    exact hdn k hk (by omega) e3⟩))
theorem o8(p:LD→Bool):∀(l z:List LD)(d:Bool),l.foldl (λ(t:List LD×Bool) x=>if(!t.2&&p x)=true then(t.1,true)else(t.1++[x],t.2)) (z,d)=(z++(if d=true then l else l.eraseP p),d||l.any p)
 | [],z,d=>by cases d<;>simp
 | x::l,z,d=>by
  rw[TG]
  cases d with
  | true=>
   rw[if_neg (by simp),o8 p l]
   simp
  | false=>
   cases hp:p x with
   | true=>
    rw[if_pos (by simp),o8 p l]
    simp[hp]
   | false=>
    rw[if_neg (by simp),o8 p l]
    simp[hp]
theorem EH{s:JF}(h:M_ s):ij s=some ⟨s.Lf,s.Ls,s.Lr.eraseP λa=>!Mx a,s.Lc,s.LG,s.LU,s.Now,s.L9,s.Seq⟩:=by
 unfold ij;have hn:=h.a
 have e:=(cW (λ(t:List LD×Bool) i=>(t.1,t.2,i)) s.Lr (λ(t:List LD×Bool) x=>if(!t.2&&!Mx x)=true then(t.1,true)else(t.1++[x],t.2)) (λk t=>t.1.length≤k) (λt=>t.1)
  (step:=eS s) (by omega) ?_ ?_ (s:=([],false)) (by simp)).1
 ·rw[e,o8 (λa=>!Mx a),K8];simp
 ·rintro k hk ⟨l,d⟩ hl;dsimp only at hl ⊢
  refine⟨?_,by split<;>(try simp)<;>omega⟩
  unfold eS;dsimp only;rw[ah hk,cond_true,ai hk,K8,mK,K8]
  cases d<;>cases Mx s.Lr[k] <;>
   simp[aj (b:=200) (l:=l) (m:=[s.Lr[k]]) (by simp;omega) (by omega)]
 ·rintro⟨l,d⟩ _;unfold eS;dsimp only;rw[ar];rfl
theorem MI.forget{N:Nat}{s:JF}(h:MI ZN N s):Inv N ⟨s.Lf,s.Ls,s.Lr.eraseP λa=>!Mx a,s.Lc,s.LG,s.LU,s.Now,s.L9,s.Seq⟩:=by
 have hs:(s.Lr.eraseP λa=>!Mx a).Sublist s.Lr:=List.eraseP_sublist;refine⟨h.cf,h.nl,h.ns,h.nk,Rb hs.length_le h.al,h.Px.sublist hs,λa ha=>h.ak a (hs.subset ha),h.cl,h.cs,λc hc=>?_,h.ss,h.sk,h.pl,h.ps,h.pk,h.now,h.ep,h.sq,⟨h.en.1,h.en.2.1,λa ha=>h.en.2.2 a (hs.subset ha)⟩,h.sd.Xv,h.sd.Ta,h.sd.slt,h.sd.Vr,h.sd.fit,λa ha e=>h.sd.one a (hs.subset ha) e⟩;have:=h.ck c hc;refine⟨this.size,?_,this.label,this.id,λem=>⟨(this.R6 em).1,λd hd=>(this.R6 em).2 d (hs.subset hd)⟩⟩;obtain⟨a,ha,e1,e2⟩:=this.app;refine⟨a,?_,e1,e2⟩
 exact(List.mem_eraseP_of_neg (by unfold Mx;simp[e2])).2 ha
theorem tB(n:Int):fW n=some (decide (1≤n)&&decide (n≤1073741824)):=by
 unfold fW;by_cases h:n≥1
 ·rw[decide_eq_true h];rfl
 ·rw[decide_eq_false h];rfl
theorem Bq{s:JF}(h:M_ s):loop (cQ s) (0,0)=some ((s.Lr.filter Mx).length:Int):=by
 have hn:=h.a
 have e:=(cW (λ(t:Int) i=>(t,i)) s.Lr (λt x=>if Mx x=true then t+1 else t) (λk t=>0≤t∧t≤k) (λt=>t) (step:=cQ s) (by omega) ?_ ?_ (s:=0) (by simp)).1
 ·rw[e]
  have gen:∀(l:List LD)(z:Int),l.foldl (λt x=>if Mx x=true then t+1 else t) z=z+((l.filter Mx).length:Int):=by
   intro l
   induction l with
   | nil=>intro z;simp
   | cons x l ih=>
    intro z;rw[TG,ih,UE];split
    ·simp;omega
    ·rfl
  rw[gen,Int.zero_add]
 ·intro k hk t ht
  refine⟨?_,by split<;>omega⟩
  unfold cQ;dsimp only;rw[ah hk,cond_true,ai hk,K8,mK,K8]
  cases Mx s.Lr[k]
  ·rfl
  ·simp only[cond_true,K8,if_true]
   rw[am (x:=t+1) (by omega) (by omega)]
 ·intro t _;unfold cQ;rw[ar];rfl
theorem Fa{N:Nat}{s:JF}(h:Inv N s)(a:LD)(hu:0≤a.User∧a.User≤2):Gv (iS s a) λr=>Inv N r.1:=by
 unfold iS;refine ad (P:=λb=>b=false→RB a.Lj) ?_ ?_
 ·refine ae (λ_=>aa (by simp)) λ_=>ae (λ_=>aa (by simp)) λ_=>ae (λ_=>aa (by simp)) λh1=>ae (λ_=>aa (by simp)) λh2=>
   ae (λ_=>aa (by simp)) λ_=>ae (λ_=>aa (by simp)) λ_=>?_
  rw[tB,K8]
  refine ae (λ_=>aa (by simp)) λh3=>?_
  rw[tB,K8];refine aa λh4=>?_;simp only[QdU,Np,decide_eq_true_eq]at h3 h4;exact⟨h3,h4⟩
 ·intro b hb;refine ae (λ_=>aa h) λhbf=>?_;have hb:=hb hbf;rw[co h.z,K8]
  cases hn:MV s a.Id with
  | some m=>exact aa h
  | none=>
   have hno:=qw hn;simp only[Option.elim,cond_false];rw[Bq h.z,K8];refine ae (λ_=>aa h) λhlv=>?_;rw[wR h.cf.small,K8];refine ae (λ_=>aa h) λXf=>?_
   have Xf:Nq s.Lf a.Lm=true:=by simpa using Xf
   simp only[decide_eq_false_iff_not]at hlv;refine ad (P:=λt=>Inv N t∧t.Lr.length<16∧(∀x∈t.Lr,x∈s.Lr)∧t.Lf=s.Lf) ?_ ?_
   ·refine ae (λhge=>?_) λhlt=>?_
    ·rw[EH h.z,K8];refine aa ⟨h.forget,?_,λx hx=>List.eraseP_sublist.subset hx,rfl⟩
     have hex:∃x∈s.Lr,(!Mx x)=true:=by
      apply Classical.byContradiction;intro hne
      have:s.Lr.filter Mx=s.Lr:=QeR.2 λx hx=>by
       cases hp:Mx x with
       | true=>rfl
       | false=>exact absurd ⟨x,hx,by rw[hp];rfl⟩ hne
      rw[this]at hlv;simp only[decide_eq_true_eq]at hge;omega
     obtain⟨x,hx,hp⟩:=hex;have hl:=List.length_eraseP_of_mem (p:=λa=>!Mx a) hx hp;have h2:=h.al;show(s.Lr.eraseP _).length<16;have hpos:=Qe_ hx;omega
    ·simp only[decide_eq_false_iff_not]at hlt
     exact aa ⟨h,by omega,λx hx=>hx,rfl⟩
   ·rintro t ⟨ht,htl,hts,htc⟩;show Gv ((some [dY a]).bind _) _;rw[K8,nI ht.z,K8];refine aa ?_;have hno':∀x∈t.Lr,x.Id≠a.Id:=λx hx=>hno x (hts x hx)
    have hok:Pw N t.Lf ⟨a.Id,1,a.Lm,a.User,a.LA,⟨a.Lj.Mem,a.Lj.Lu⟩,[dY a],t.Now,0,[],[],[],[]⟩:=
     ⟨by dsimp only;omega,hu,nF h.cf Xf,λ_=>by rw[htc];exact Xf,hb,by simp,λx hx=>by
      have:x=dY a:=by simpa using hx
      subst this
      exact yJ ht.cf hb,by simp,by simp,by simp,by simp,by simp,λ_ x hx=>by
      have:x=dY a:=by simpa using hx
      subst this;exact⟨rfl,rfl⟩⟩
    refine⟨ht.cf,ht.nl,ht.ns,ht.nk,?_,lS ht.Px,?_,ht.cl,ht.cs,?_,ht.ss,ht.sk,ht.pl,ht.ps,ht.pk,ht.now,ht.ep,ht.sq,⟨ht.en.1,ht.en.2.1,λx hx=>((aJ ht.Px).1 hx).elim (λe=>by subst e;exact⟨List.Pairwise.nil,λg hg=>by cases hg⟩) λhx=>ht.en.2.2 x hx.1⟩,ht.sd.Xv,ht.sd.Ta,ht.sd.slt,ht.sd.Vr,ht.sd.fit,λx hx e=>?_⟩
    ·have:=(mq (id:=λx:LD=>x.Id) (l:=t.Lr) (a:=⟨a.Id,1,a.Lm,a.User,a.LA,⟨a.Lj.Mem,a.Lj.Lu⟩,[dY a],t.Now,0,[],[],[],[]⟩)).1;show(NR _ _ _).length≤16;omega
    ·intro x hx;rcases(aJ ht.Px).1 hx with rfl | ⟨hx,_⟩
     ·exact hok
     ·exact ht.ak x hx
    ·intro c hc;have:=ht.ck c hc;obtain⟨b,hb,e1,e2⟩:=this.app;refine⟨this.size,?_,this.label,this.id,λem=>⟨(this.R6 em).1,λd hd e'=>?_⟩⟩
     rotate_left
     ·rcases(aJ ht.Px).1 hd with rfl | ⟨hd,_⟩
      ·have e':a.Id=c.LD:=e'
       exact absurd (by omega) (hno' b hb)
      ·exact(this.R6 em).2 d hd e'
     exact⟨b,(aJ ht.Px).2 (.inr ⟨hb,hno' b hb⟩),e1,e2⟩
    ·rcases(aJ ht.Px).1 hx with rfl | ⟨hx,_⟩
     ·have e:(1:Int)=2:=e;omega
     ·exact ht.sd.one x hx e
theorem KB{N:Nat}{s:JF}(h:Inv N s)(i st:Int)(hst:st=3∨st=4):Gv (kL s i st) λr=>Inv N r.1:=by
 unfold kL;rw[co h.z,K8]
 cases hn:MV s i with
 | none=>exact aa h
 | some a=>
  obtain⟨ha,rfl⟩:=sY hn;have hak:=h.ak a ha;simp only[Option.elim,PZ,cond_false];rw[mK,K8,K8];refine ae (λ_=>aa h) λ_=>?_
  have hz:∀b:LD,M_ (NA s b):=by intro b;refine⟨h.z.n,?_,h.z.c,h.z.l,h.z.p⟩;have:=(mq (id:=λx:LD=>x.Id) (l:=s.Lr) (a:=b)).1;have h2:=h.al;show(NR _ _ _).length≤100000;omega
  rw[nI h.z,K8,wU (hz _),K8]
  refine aa (h.reset ha rfl ⟨by dsimp only;omega,hak.user,hak.Ld,λe=>by dsimp only at e;omega,hak.R6,by simp,by simp,by simp,by simp,by simp,by simp,by simp,λe=>by dsimp only at e;omega⟩ ⟨by simp,by simp⟩ (by dsimp only;omega))
theorem Fe{N:Nat}{s:JF}(h:Inv N s)(i st:Int)(hst:st=3∨st=4):Gv (ic s i st) λr=>Inv N r.1:=by unfold ic;rw[co h.z,K8];refine ae (λ_=>aa h) λ_=>?_;rw[mK,K8];refine ae (λ_=>aa h) λ_=>?_;exact ad (KB h i st hst) λr hr=>aa hr
end Go.Fx.D
