/-
  The framework, second part: rules for steps, calls and maps. Conditions: none.
-/
import Derived.Test.YtdickabkndfjhaaGreatFxA
import Derived.Laws.Tables
namespace Go.Fx
open Go
set_option linter.unusedVariables false
set_option linter.unusedSimpArgs false
section
variable{F:Fam}{P:Program}{T:TypeId→Option (TI F)}{o:Oper}{vals:List (Dat F)}{mm:Nat→Option (Mg F)}{c:Nat}{R:Type}{K:SS F→Option R}{own:Ow}{g g':G}{w w':World}{m m':Nat→Option (Mg F)}
theorem ao{a b:Nat}(h:a≠b):Nat.beq a b=false:=by
 cases hb:Nat.beq a b with
 | false=>rfl
 | true=>exact absurd (Rh hb) h
theorem bC(a:Nat):Nat.beq a a=true:=Yz a
theorem aN{x:Nat}:∀{l:List Nat},Mf x l=true↔x∈l
 | []=>by simp[Mf]
 | y::l=>by
  simp only[Mf];split
  ·rename_i h;have:=Rh h;subst this;simp
  ·rename_i h
   have hne:x≠y:=by rintro rfl;simp[bC]at h
   rw[aN];simp[hne]
theorem gU(m:Nat→Option (Mg F)):∀(l r:List (Nat×Option (Mg F))),Ml m (l++r)=Ml (Ml m l) r
 | [],r=>rfl
 | (id,B)::l,r=>gU _ l r
theorem dT:∀(mw:List (Nat×Option (Mg F))) (m:Nat→Option (Mg F)) (x:Nat),x∉mw.map (·.1)→Ml m mw x=m x
 | [],m,x,_=>rfl
 | (id,B)::r,m,x,h=>by simp only[M9,Nz,not_or]at h;simp only[Ml];rw[dT r _ x h.2,ao (λe=>h.1 e.symm)];simp
theorem qS(m:Nat→Option (Mg F))(l:List (Nat×Option (Mg F)))(id:Nat)(B:Option (Mg F))(x:Nat):Ml m (l++[(id,B)]) x=if x=id then B else Ml m l x:=by
 rw[gU];simp only[Ml];by_cases h:x=id
 ·subst h;simp
 ·rw[ao (λe=>h e.symm)];simp[h]
theorem LQ.O_{S:Nat→Prop}(hm:LQ own g w m)(hl:Le g w g' w')
  (hsame:∀id,¬ S id→∀B,m' id=some B→m id=some B) (Oc:∀id,¬ S id→g'.ids id=g.ids id)
  (hkeep:∀id B b,¬ S id→m id=some B→B.owned=true→g.blk id b→w'.heap[b]? = w.heap[b]?∧¬ g'.Li b)
  (hnew:∀id B,S id→m' id=some B→Na g' w' id B∧∀b,B.owned=true→g'.blk id b→own.o b∧¬ g'.Li b∧∀id' B',m' id'=some B'→B'.owned=true→g'.blk id' b→id'=id)
  (MQ:∀b,g'.Li b→b<w'.heap.size) (hio:∀b,g'.Li b→own.i b∨own.o b) (hlen:∀b,g'.len b→¬ own.o b∧b<w'.heap.size):LQ own g' w' m':=by
 have hb:∀id b,¬ S id→g'.blk id b→g.blk id b:=by rintro id b hs ⟨b0,c,hc,hbb⟩;rw[Oc id hs]at hc;exact⟨b0,c,hc,hbb⟩
 refine⟨?_,?_,?_,MQ,hio,hlen⟩
 ·intro id B h;by_cases hs:S id
  ·exact(hnew id B hs h).1
  ·have h0:=hsame id hs B h;exact(hm.ok id B h0).le hl (λho b hb'=>(hkeep id B b hs h0 ho hb').1)
 ·intro id id' B B' b h h' ho ho' k k';by_cases hs:S id
  ·exact(((hnew id B hs h).2 b ho k).2.2 id' B' h' ho' k').symm
  ·by_cases hs':S id'
   ·exact((hnew id' B' hs' h').2 b ho' k').2.2 id B h ho k
   ·exact hm.SX id id' B B' b (hsame id hs B h) (hsame id' hs' B' h') ho ho' (hb id b hs k) (hb id' b hs' k')
 ·intro id B b h ho k;by_cases hs:S id
  ·exact⟨((hnew id B hs h).2 b ho k).1,((hnew id B hs h).2 b ho k).2.1⟩
  ·have h0:=hsame id hs B h;exact⟨(hm.own id B b h0 ho (hb id b hs k)).1,(hkeep id B b hs h0 ho (hb id b hs k)).2⟩
theorem LQ.sub(hm:LQ own g w m)(h:∀id B,m' id=some B→m id=some B):LQ own g w m':=
 ⟨λid B hB=>hm.ok id B (h id B hB),λid id' B B' b hB hB'=>hm.SX id id' B B' b (h id B hB) (h id' B' hB'),λid B b hB=>hm.own id B b (h id B hB),hm.Li,hm.io,hm.len⟩
def G.Rm(g:G)(ids:List Nat):G:=⟨g.ids,λb=>g.Li b∨∃id∈ids,g.blk id b,g.len⟩
theorem pE(g:G)(w:World)(ids:List Nat):Le g w (g.Rm ids) w:=⟨λ_ _ h=>h,λ_ h=>.inl h,λ_ _=>rfl,λ_ h=>h,λ_ _=>rfl⟩
theorem Ep(hm:LQ own g w m){id:Nat}{t:Ty}{l:List (ET F t)}(h:m id=some (.row t l)){g1:G}(hle:Le g w g1 w)(MQ:∀b,g.blk id b→g1.Li b){v:Value}(hv:Mh (F:=F) g w (.Nn id) v):L_ w g1.Li (.sl t l) v:=by
 rcases bu hv with⟨hi,p,rfl⟩ | ⟨b,c,n,hi,h1,h2,rfl⟩
 ·rcases hm.ok id _ h with⟨_,rfl⟩ | ⟨b',cap,_,_,k1,_⟩
  ·exact .sl0 t p
  ·rw[hi]at k1;cases k1
 ·obtain⟨rfl,h4,h7⟩:=cV hm h hi;refine .sl t l b 0 c (λk=>(w.cell? ⟨b,k,none⟩).getD undef) (MQ b (G.MH hi)) h4 h2 ?_ ?_
  ·intro k d hk;obtain⟨x,k1,k2⟩:=h7 k d hk;rw[OW,k1];rfl
  ·intro k d hk;obtain⟨x,k1,k2⟩:=h7 k d hk;rw[k1];exact k2.le hle
theorem zb{Li LX:Nat→Prop}(hi:∀b,Li b→LX b){t:Ty}{l:List (ET F t)}{pl:Pl}(h:da w Li t l pl)(hb:∀b c,pl=some (b,c)→LX b){v:Value}(hv:Ol pl v):L_ w LX (.sl t l) v:=by
 cases pl with
 | none=>obtain⟨p,rfl⟩:=hv;have h:l = []:=h;subst h;exact .sl0 t p
 | some q=>
  obtain⟨b,cap,n⟩:=q;obtain⟨rfl,q2,q3,cur,e,q4,q5,q6⟩:=h;have hv:v = .slice (some ⟨b,0,none⟩) l.length cap:=hv;subst hv
  have key:∀k d,(cells F t l)[k]? = some d→∃x,w.cell? ⟨b,k,none⟩=some x∧L_ w LX d x:=by
   intro k d hk;have h7:k<(cells F t l).length:=(K_.1 hk).1
   have hlt:k<cur.length:=by rw[aH]at h7;have:l.length*LY F t≤cap*LY F t:=Rp _ q2;omega
   exact⟨cur[k],by simp[World.cell?,q4,hlt],(q6 k d _ hk (K9 hlt)).mono hi (λ_ _=>rfl)⟩
  refine .sl t l b 0 cap (λk=>(w.cell? ⟨b,k,none⟩).getD undef) (hb b _ rfl) q2 q3 ?_ ?_
  ·intro k d hk;obtain⟨x,k1,k2⟩:=key k d hk;rw[OW,k1];rfl
  ·intro k d hk;obtain⟨x,k1,k2⟩:=key k d hk;rw[k1];exact k2
theorem Dm{Li LX:Nat→Prop}(hi:∀b,Li b→LX b){d:ND F}{x:Value}{pl:Option (Nat×Nat×Nat)}(h:Ov w Li d x pl)(hb:∀b c,pl=some (b,c)→LX b):L_ w LX d x:=by
 cases d with
 | sl t l=>
  refine zb hi h.1 ?_ h.2;intro b c e
  cases pl with
  | none=>cases e
  | some q=>obtain⟨b',c',n'⟩:=q;simp only[Nt,NJ,Prod.mk.injEq]at e;exact hb b (c',n') (by rw[← e.1])
 | _=>exact h.2.2.mono hi (λ_ _=>rfl)
theorem xM(hm:LQ own g w m){id:Nat}{t:Ty}{l:List (ET F t)}(h:m id=some (.Nc t l)){g1:G}(hle:Le g w g1 w)(MQ:∀b,g.blk id b→g1.Li b){b c:Nat}{n:Nat×NS}(hi:g.ids id=some (some (b,c,n))) :
  n.1=l.length∧l.length≤c∧c≤maxLen∧∀k d,(cells F t l)[k]? = some d→∃x,w.cell? ⟨b,k,none⟩=some x∧L_ w g1.Li d x:=by
 obtain⟨k1,k2,k3,k4⟩:=kg hm h hi;refine⟨k1,k2,k3,λk d hk=>?_⟩;obtain⟨x,pl,h1,h2,h3⟩:=k4 k d hk;refine⟨x,h1,Dm hle.Li h3 ?_⟩;rintro b' c' rfl;exact MQ b' ⟨b,(c,n),hi,Uh _ (jI h2)⟩
theorem Dt(hm:LQ own g w m){id:Nat}{t:Ty}{l:List (ET F t)}(h:m id=some (.Nc t l)){g1:G}(hle:Le g w g1 w)(MQ:∀b,g.blk id b→g1.Li b){v:Value}(hv:Mh (F:=F) g w (.Nn id) v):L_ w g1.Li (.sl t l) v:=by
 rcases bu hv with⟨hi,p,rfl⟩ | ⟨b,c,n,hi,h1,h2,rfl⟩
 ·obtain⟨pl,k1,k2⟩:=hm.ok id _ h;rw[hi]at k1;cases k1;have k2:l = []:=k2;subst k2;exact .sl0 t p
 ·obtain⟨k1,h4,h5,h7⟩:=xM hm h hle MQ hi;rw[k1];refine .sl t l b 0 c (λk=>(w.cell? ⟨b,k,none⟩).getD undef) (MQ b (G.MH hi)) h4 h2 ?_ ?_
  ·intro k d hk;obtain⟨x,k1,k2⟩:=h7 k d hk;rw[OW,k1];rfl
  ·intro k d hk;obtain⟨x,k1,k2⟩:=h7 k d hk;rw[k1];exact k2
theorem Hj(hm:LQ own g w m){id:Nat}{t:Ty}{l:List (ET F t)}(h:m id=some (.row t l)){g1:G}(hle:Le g w g1 w)(MQ:∀b,g.blk id b→g1.Li b){sz off n:Nat}(hsz:sz=LY F t){v:Value}(hv:Mh (F:=F) g w (.RD id sz off n) v):L_ w g1.Li (.sl t (sub l off n)) v:=by
 subst hsz;rcases oT hv with⟨hi,rfl,rfl,p,rfl⟩ | ⟨b,c,len,q,hi,h1,h2,h3,h4,rfl⟩
 ·have:sub l 0 0 = []:=by simp[Fx.sub]
  rw[this];exact .sl0 t p
 ·obtain⟨rfl,h5,h7⟩:=cV hm h hi
  have hlen:(sub l off n).length=n:=by simp only[Fx.sub,Oy,Ro];omega
  have key:∀(k:Nat)(d:ND F),(cells F t (sub l off n))[k]? = some d→∃x,w.cell? ⟨b,q+k,none⟩=some x∧L_ w g1.Li d x:=by
   intro k d hk;rcases h3 with⟨h3,_⟩ | h3
   ·have h0:n=0:=by omega
    subst h0;simp[Fx.sub,cells]at hk
   ·subst h3;obtain⟨x,k1,k2⟩:=h7 _ _ (lK hk);exact⟨x,k1,k2.le hle⟩
  have:=L_.sl (F:=F) (w:=w) (Li:=g1.Li) t (sub l off n) b q (c - off) (λk=>(w.cell? ⟨b,q+k,none⟩).getD undef) (MQ b (G.MH hi)) (by omega) (by omega)
   (λk d hk=>by obtain⟨x,k1,k2⟩:=key k d hk;rw[k1];rfl) (λk d hk=>by obtain⟨x,k1,k2⟩:=key k d hk;rw[k1];exact k2)
  rwa [hlen]at this
theorem z5(hm:LQ own g w m)(hle:P6 mm m){x:MJ F}{d:ND F}{ids:List Nat}(h:Sl mm x=some (d,ids)){g1:G}(hg:Le g w g1 w)(MQ:∀id∈ids,∀b,g.blk id b→g1.Li b){v:Value}(hv:Mh g w x v):L_ w g1.Li d v:=by
 unfold Sl at h;split at h
 ·cases h;exact(c9 hv).le hg
 ·have hv:=vE hm hle hv;simp only[WC]at hv;unfold YT at h;split at h
  ·rename_i hrow;cases h
   exact Ep hm (hle _ _ hrow) hg (MQ _ (by simp)) hv
  ·rename_i hrow;cases h
   exact Dt hm (hle _ _ hrow) hg (MQ _ (by simp)) hv
  ·rename_i hrow;cases h;exact(qW hm (hle _ _ hrow) hv).le hg
  ·cases h
 ·split at h
  ·rename_i hrow;split at h
   ·rename_i hsz;cases h
    exact Hj hm (hle _ _ hrow) hg (MQ _ (by simp)) hsz hv
   ·cases h
  ·rename_i hrow;split at h
   ·rename_i hsz;cases h;exact(y9 hm (hle _ _ hrow) hsz hv).le hg
   ·cases h
  ·cases h
 ·cases h
def ZO(mm:Nat→Option (Mg F))(id:Nat):Prop:=∃t l,mm id=some (.row t l)∨mm id=some (.Nc t l)
theorem ZO.owned{id:Nat}(h:ZO mm id):∃B,mm id=some B∧B.owned=true:=by
 obtain⟨t,l,h | h⟩:=h<;>exact⟨_,h,rfl⟩
theorem yE{x:MJ F}{d:ND F}{ids:List Nat}(h:Sl mm x=some (d,ids)):∀id∈ids,ZO mm id:=by
 unfold Sl at h;split at h
 ·cases h;simp
 ·unfold YT at h;split at h
  ·rename_i hrow;cases h;intro i hi;rw[Lb]at hi;subst hi;exact⟨_,_,.inl hrow⟩
  ·rename_i hrow;cases h;intro i hi;rw[Lb]at hi;subst hi;exact⟨_,_,.inr hrow⟩
  ·cases h;simp
  ·cases h
 ·split at h
  ·rename_i hrow;split at h
   ·cases h;intro i hi;rw[Lb]at hi;subst hi;exact⟨_,_,.inl hrow⟩
   ·cases h
  ·split at h
   ·cases h;simp
   ·cases h
  ·cases h
 ·cases h
theorem mQ{x:MJ F}{r:List (MJ F)}{ds:List (ND F)}{ids:List Nat}(h:cF mm (x::r)=some (ds,ids)) :
  ∃d i ds' j,Sl mm x=some (d,i)∧cF mm r=some (ds',j)∧ds=d::ds'∧ids=i++j:=by
 simp only[cF]at h;split at h
 ·cases h
 ·rename_i d i hd;split at h
  ·cases h
  ·rename_i ds' j hr;cases h;exact⟨d,i,ds',j,hd,hr,rfl,rfl⟩
theorem oy:∀{cs:List (MJ F)} {ds:List (ND F)} {ids:List Nat},cF mm cs=some (ds,ids)→∀id∈ids,ZO mm id
 | [],ds,ids,h=>by simp only[cF,NJ]at h;cases h;simp
 | x::r,ds,ids,h=>by
  obtain⟨d,i,ds',j,h1,h2,rfl,rfl⟩:=mQ h;intro id hid;rcases OB.1 hid with hid | hid
  ·exact yE h1 id hid
  ·exact oy h2 id hid
theorem iz:∀{cs:List (MJ F)} {ds:List (ND F)} {ids:List Nat},cF mm cs=some (ds,ids)→ds.length=cs.length
 | [],ds,ids,h=>by simp only[cF,NJ]at h;cases h;rfl
 | x::r,ds,ids,h=>by obtain⟨d,i,ds',j,h1,h2,rfl,rfl⟩:=mQ h;simp[iz h2]
theorem jJ(hm:LQ own g w m)(hle:P6 mm m):∀{cs:List (MJ F)} {ds:List (ND F)} {ids:List Nat},cF mm cs=some (ds,ids)→∀{g1:G},Le g w g1 w→(∀id∈ids,∀b,g.blk id b→g1.Li b)→
  ∀(vs:List Value),(∀(k:Nat)(x:MJ F)(v:Value),cs[k]? = some x→vs[k]? = some v→Mh g w x v)→∀(k:Nat)(d:ND F)(v:Value),ds[k]? = some d→vs[k]? = some v→L_ w g1.Li d v
 | [],ds,ids,h,g1,_,_,vs,_,k,d,v,hd,_=>by simp only[cF,NJ]at h;cases h;simp at hd
 | x::r,ds,ids,h,g1,hg,MQ,vs,hr,k,d,v,hd,hv=>by
  obtain⟨d',i,ds',j,h1,h2,rfl,rfl⟩:=mQ h
  match vs,hv with
  | [],hv=>simp at hv
  | u::us,hv=>
   cases k with
   | zero=>
    simp only[PW,NJ]at hd hv;subst hd hv
    exact z5 hm hle h1 hg (λid hid=>MQ id (by simp[hid])) (hr 0 x u rfl rfl)
   | succ k=>
    exact jJ hm hle h2 hg (λid hid=>MQ id (by simp[hid])) us (λk x v a b=>hr (k+1) x v a b) k d v (by simpa using hd) (by simpa using hv)
def R4(mm:Nat→Option (Mg F))(ids:List Nat):Prop:=
 ∀id∈ids,ZO mm id∨(∃cs ds fz,mm id=some (.box cs)∧cF mm cs=some (ds,fz)∧∀x∈fz,x∈ids)∨∃cs,mm id=some (.box cs)∧(0:Nat)=0
theorem R4.Po{ids:List Nat}(h:∀id∈ids,ZO mm id):R4 mm ids:=λid hid=>.inl (h id hid)
theorem u7{ids:List Nat}{id:Nat}{t:Ty}{l:List (ET F t)}(h:mm id=some (.row t l)):Uw mm ids id=some (.Tc t l):=by simp[Uw,h]
theorem yn{ids:List Nat}{id:Nat}{t:Ty}{l:List (ET F t)}(h:mm id=some (.Nc t l)):Uw mm ids id=some (.Tc t l):=by simp[Uw,h]
theorem vg{ids:List Nat}{id:Nat}{cs:List (MJ F)}{B:Mg F}(h:mm id=some (.box cs))(hB:Uw mm ids id=some B):∃ds fz,cF mm cs=some (ds,fz)∧(∀x∈fz,x∈ids)∧B = .ZM ds:=by
 unfold Uw at hB;rw[h]at hB;dsimp only at hB;split at hB
 ·rename_i ds fz hc
  cases ha:fz.all (λx=>Mf x ids)with
  | false=>rw[ha]at hB;cases hB
  | true=>rw[ha]at hB;cases hB;refine⟨ds,fz,hc,λx hx=>?_,rfl⟩;have:=Td.1 ha x hx;exact aN.1 this
 ·cases hB
theorem kV{ids:List Nat}{x:Nat}:Ml m (Wo mm ids) x=if x∈ids then Uw mm ids x else m x:=by
 unfold Wo
 have gen:∀(B:Nat→Option (Mg F)) (ids:List Nat) (m:Nat→Option (Mg F)),Ml m (ids.map λid=>(id,B id)) x=if x∈ids then B x else m x:=by
  intro B ids
  induction ids with
  | nil=>intro m;simp[Ml]
  | cons i ids ih=>
   intro m;simp only[M9,Ml,ih,Nz];by_cases h1:x∈ids
   ·simp[h1]
   ·by_cases h2:x=i
    ·subst h2;simp
    ·rw[ao (λe=>h2 e.symm)];simp[h1,h2]
 exact gen (Uw mm ids) ids m
theorem mU(hm:LQ own g w m)(hle:P6 mm m){ids:List Nat}(hf:R4 mm ids):LQ own (g.Rm ids) w (Ml m (Wo mm ids)):=by
 refine hm.O_ (S:=λid=>id∈ids) (pE g w ids) ?_ (λ_ _=>rfl) ?_ ?_ ?_ ?_ hm.len
 ·intro id hid B hB;rw[kV,if_neg hid]at hB;exact hB
 ·intro id B b hid hB ho hb;refine⟨rfl,?_⟩;rintro(hi | ⟨id',NY,hb'⟩)
  ·exact(hm.own id B b hB ho hb).2 hi
  ·have Vd:∃B',m id'=some B'∧B'.owned=true:=by
    rcases hf id' NY with⟨t,l,h | h⟩ | ⟨cs,ds,fz,h,_⟩ | ⟨cs,h,_⟩
    ·exact⟨_,hle _ _ h,rfl⟩
    ·exact⟨_,hle _ _ h,rfl⟩
    ·exact⟨_,hle _ _ h,rfl⟩
    ·exact⟨_,hle _ _ h,rfl⟩
   obtain⟨B',h1,h2⟩:=Vd;have:=hm.SX id id' B B' b hB h1 ho h2 hb hb';subst this;exact hid NY
 ·intro id B hid hB;rw[kV,if_pos hid]at hB
  have hf':ZO mm id∨∃cs,mm id=some (.box cs):=by
   rcases hf id hid with h | ⟨cs,ds,fz,h,_⟩ | ⟨cs,h,_⟩
   ·exact .inl h
   ·exact .inr ⟨_,h⟩
   ·exact .inr ⟨_,h⟩
  rcases hf' with⟨t,l,h | h⟩ | ⟨cs,h⟩
  ·rw[u7 h]at hB;cases hB
   refine⟨?_,λb ho=>by cases ho⟩
   rcases hm.ok id _ (hle _ _ h)with⟨k1,k2⟩ | ⟨b,cap,cur,e,k1,k2,k3,k4,k5,k6⟩
   ·exact .inl ⟨k1,k2⟩
   ·obtain⟨_,h4,h7⟩:=cV hm (hle _ _ h) k1
    refine .inr ⟨b,cap,[],k1,by simp[MO],.inr ⟨id,hid,G.MH k1⟩,k3,k4,λk d hk=>?_⟩
    obtain⟨x,q1,q2⟩:=h7 k d hk;exact⟨x,q1,q2.le (pE g w ids)⟩
  ·rw[yn h]at hB;cases hB
   refine⟨?_,λb ho=>by cases ho⟩
   obtain⟨pl,k1,k2⟩:=hm.ok id _ (hle _ _ h)
   cases pl with
   | none=>exact .inl ⟨k1,k2⟩
   | some q=>obtain⟨b,cap,n,ns⟩:=q;obtain⟨q1,q2,q3,q4⟩:=xM hm (hle _ _ h) (pE g w ids) (λb hb=>.inr ⟨id,hid,hb⟩) k1;have q1:n=l.length:=q1;subst q1;exact .inr ⟨b,cap,ns,k1,λb' hb'=>.inr ⟨id,hid,b,_,k1,Uh _ hb'⟩,.inr ⟨id,hid,G.MH k1⟩,q2,q3,q4⟩
  ·obtain⟨ds,fz,hc,hfz,rfl⟩:=vg h hB
   refine⟨?_,λb ho=>by cases ho⟩
   obtain⟨b,c,arr,t,k1,k2,k3,k4⟩:=hm.ok id _ (hle _ _ h);refine⟨b,c,k1,.inr ⟨id,hid,G.MH k1⟩,λk d hk=>?_⟩
   have hlt:k<arr.length:=by rw[k3,← iz hc];exact(K_.1 hk).1
   refine⟨arr[k],by simp[World.cell?,k2,hlt],?_⟩
   exact jJ hm hle hc (pE g w ids) (λid' NY b' hb'=>.inr ⟨id',hfz id' NY,hb'⟩) arr k4 k d _ hk (K9 hlt)
 ·rintro b (hb | ⟨id,hid,hb⟩)
  ·exact hm.Li b hb
  ·rcases hf id hid with⟨t,l,h | h⟩ | ⟨cs,ds,fz,h,_⟩ | ⟨cs,h,_⟩
   ·exact(hm.ok id _ (hle _ _ h)).place hm.Li rfl hb
   ·exact(hm.ok id _ (hle _ _ h)).place hm.Li rfl hb
   ·exact(hm.ok id _ (hle _ _ h)).place hm.Li rfl hb
   ·exact(hm.ok id _ (hle _ _ h)).place hm.Li rfl hb
 ·rintro b (hb | ⟨id,hid,hb⟩)
  ·exact hm.io b hb
  ·rcases hf id hid with⟨t,l,h | h⟩ | ⟨cs,ds,fz,h,_⟩ | ⟨cs,h,_⟩
   ·exact .inr (hm.own id _ b (hle _ _ h) rfl hb).1
   ·exact .inr (hm.own id _ b (hle _ _ h) rfl hb).1
   ·exact .inr (hm.own id _ b (hle _ _ h) rfl hb).1
   ·exact .inr (hm.own id _ b (hle _ _ h) rfl hb).1
theorem J1(hle:P6 mm m){ids:List Nat}(hf:R4 mm ids)(hs:Stp (Ml m (Wo mm ids)) (g.Rm ids) w g' w'):Stp m g w g' w':=by
 refine⟨(pE g w ids).trans hs.le,hs.os,hs.tape,hs.output,hs.size,λb hb hno=>hs.frame b hb (λid B hB ho hk=>?_),hs.drawn⟩;rw[kV]at hB;split at hB
 ·rename_i hid;rcases hf id hid with⟨t,l,h | h⟩ | ⟨cs,ds,fz,h,hc,_⟩ | ⟨cs,h,hc⟩
  ·rw[u7 h]at hB;cases hB;cases ho
  ·rw[yn h]at hB;cases hB;cases ho
  ·obtain⟨ds,fz,_,_,rfl⟩:=vg h hB;cases ho
  ·obtain⟨ds,fz,_,_,rfl⟩:=vg h hB;cases ho
 ·exact hno id B hB ho hk
theorem z_{u:Nat→Bool}{a:Act}{ids:List Nat}{res:SS F}(hle:P6 mm m)(hf:R4 mm ids)(h:PY P own (Ml m (Wo mm ids)) u (g.Rm ids) w o a c res) :
  PY P own m u g w o a c { res with mw:=Wo mm ids++res.mw }:=by
 intro next Q hn;refine h next Q ?_;intro v w' g' h1 h2 h3 h4
 exact hn v w' g' h1 (by rw[gU];exact h2) (J1 hle hf h3) h4
def G.name(g:G)(id:Nat)(p:Pl):G:=⟨λx=>if x=id then some p else g.ids x,g.Li,g.len⟩
theorem bv(g:G)(id:Nat)(p:Pl):(g.name id p).ids id=some p:=by simp[G.name]
theorem cj(g:G)(id:Nat)(p:Pl){x:Nat}(h:x≠id):(g.name id p).ids x=g.ids x:=by simp[G.name,h]
theorem Le.name{id:Nat}{p:Pl}(hf:g.ids id=none)(hh:∀b,g.Li b→w'.heap[b]? = w.heap[b]?)(hL:∀b,g.len b→w'.heap[b]? = w.heap[b]?):Le g w (g.name id p) w':=by
 refine⟨?_,λ_ h=>h,hh,λ_ h=>h,hL⟩;intro x r hx;by_cases hxi:x=id
 ·subst hxi;rw[hf]at hx;cases hx
 ·rw[cj g id p hxi];exact hx
theorem qL{rm:List Nat}{id:Nat}{B:Mg F}{x:Nat}(hx:x≠id){B':Mg F}(h:Ml m (rm.map (λr=>(r,none))++[(id,some B)]) x=some B'):m x=some B'∧x∉rm:=by
 rw[qS,if_neg hx]at h
 have gen:∀(rm:List Nat)(m:Nat→Option (Mg F)),Ml m (rm.map (λr=>(r,none))) x=some B'→m x=some B'∧x∉rm:=by
  intro rm
  induction rm with
  | nil=>intro m h;exact⟨h,by simp⟩
  | cons r rm ih=>
   intro m h;obtain⟨h1,h2⟩:=ih _ h;by_cases hr:r=x
   ·subst hr;rw[if_pos (bC r)]at h1;cases h1
   ·rw[if_neg (by rw[ao hr];simp)]at h1
    exact⟨h1,λhx=>by rcases Nz.1 hx with h | h;exact hr h.symm;exact h2 h⟩
 exact gen rm m h
theorem kZ(hm:LQ own g w m){rm:List Nat}{id:Nat}{pl:Pl}{B:Mg F}(hf:g.ids id=none)
  (hpl:∀b0 c,pl=some (b0,c)→∀b∈b0::MO c.2.2,(w.heap.size≤b∧b<w'.heap.size∧own.o b)∨∃r∈rm,∃B0,m r=some B0∧B0.owned=true∧g.blk r b)
  (ho:w'.os=w.os) (ht:w'.tape=w.tape) (hou:w'.output=w.output) (hdr:w.drawn≤w'.drawn) (hs:w.heap.size≤w'.heap.size)
  (hne:∀b,b<w.heap.size→(∀r∈rm,∀B0,m r=some B0→B0.owned=true→¬ g.blk r b)→w'.heap[b]? = w.heap[b]?)
  (hB:∀g',Le g w g' w'→g'.ids id=some pl→Na g' w' id B) :
  LQ own (g.name id pl) w' (Ml m (rm.map (λr=>(r,none))++[(id,some B)]))∧Stp m g w (g.name id pl) w':=by
 have hle:Le g w (g.name id pl) w':=.name hf (λb hb=>hne b (hm.Li b hb) (λr _ B0 h1 h2 h3=>(hm.own r B0 b h1 h2 h3).2 hb)) (λb hb=>hne b (hm.len b hb).2 (λr _ B0 h1 h2 h3=>(hm.len b hb).1 (hm.own r B0 b h1 h2 h3).1));refine⟨?_,hle,ho,ht,hou,hs,λb hb hno=>hne b hb (λr _ B0 h1 h2=>hno r B0 h1 h2),hdr⟩;refine hm.O_ (S:=λx=>x=id∨x∈rm) hle (λx hx B' h=>(qL (λe=>hx (.inl e)) h).1) (λx hx=>cj _ _ _ (λe=>hx (.inl e))) ?_ ?_ (λb hb=>UG (hm.Li b hb) hs) hm.io (λb hb=>⟨(hm.len b hb).1,UG (hm.len b hb).2 hs⟩)
 ·intro x Bx b hx hB' ho' hb;refine⟨hne b ((hm.ok x Bx hB').place hm.Li (Mg.PU ho') hb) ?_,(hm.own x Bx b hB' ho' hb).2⟩;intro r hr B0 h1 h2 h3;have:=hm.SX x r Bx B0 b hB' h1 ho' h2 hb h3;subst this;exact hx (.inr hr)
 ·intro x B' hx hB'
  have aoH:x=id:=by
   by_cases hxi:x=id
   ·exact hxi
   ·rcases hx with hx | hx
    ·exact hx
    ·exact absurd hx (qL hxi hB').2
  subst aoH;rw[qS,if_pos rfl]at hB';cases hB';refine⟨hB _ hle (bv _ _ _),?_⟩;rintro b hob ⟨b0,c',hc',hbb⟩;rw[bv]at hc';cases hc';rcases hpl b0 c' rfl b hbb with⟨h1,h2,h3⟩ | ⟨r,hr,B0,h1,h2,h3⟩
  ·refine⟨h3,λhb=>?_,?_⟩
   ·have:b<w.heap.size:=hm.Li b hb;omega
   ·rintro y By hy hoy hby;by_cases hyx:y=x
    ·exact hyx
    ·have ado:g.blk y b:=by
      obtain⟨b1,c1,k1,k2⟩:=hby;rw[cj _ _ _ hyx]at k1;exact⟨b1,c1,k1,k2⟩
     have:=(hm.ok y By (qL hyx hy).1).place hm.Li (Mg.PU hoy) ado;omega
  ·refine⟨(hm.own r B0 b h1 h2 h3).1,(hm.own r B0 b h1 h2 h3).2,?_⟩;rintro y By hy hoy hby;by_cases hyx:y=x
   ·exact hyx
   ·have ado:g.blk y b:=by
     obtain⟨b1,c1,k1,k2⟩:=hby;rw[cj _ _ _ hyx]at k1;exact⟨b1,c1,k1,k2⟩
    obtain⟨q1,q2⟩:=qL hyx hy;have:=hm.SX y r By B0 b q1 h1 hoy h2 ado h3;subst this;exact absurd hr q2
theorem made(hm:LQ own g w m){rm:List Nat}{id:Nat}{cn:Nat×Nat}{arr:List Value}{t:TypeId}{B:Mg F}(hf:g.ids id=none)(hown:own.o w.heap.size){w1:World}(hw1:w1.heap=w.heap)(ho:w1.os=w.os)(ht:w1.tape=w.tape)(hou:w1.output=w.output)(hdr:w.drawn≤w1.drawn)
  (hB:∀g' w',Le g w g' w'→g'.ids id=some (some (w.heap.size,cn.1,cn.2,[]))→w'.heap[w.heap.size]? = some (.cells ⟨arr⟩ t (0,0))→Na g' w' id B) :
  LQ own (g.name id (some (w.heap.size,cn.1,cn.2,[]))) (w1.alloc (.cells ⟨arr⟩ t)) (Ml m (rm.map (λr=>(r,none))++[(id,some B)]))∧Stp m g w (g.name id (some (w.heap.size,cn.1,cn.2,[]))) (w1.alloc (.cells ⟨arr⟩ t)):=by
 have hold:∀b,b<w.heap.size→(w1.alloc (.cells ⟨arr⟩ t)).heap[b]? = w.heap[b]?:=by
  intro b hb
  have:=heap_alloc_old w1 (.cells ⟨arr⟩ t) b (by rw[hw1];exact hb)
  rw[this,hw1]
 have hnew:(w1.alloc (.cells ⟨arr⟩ t)).heap[w.heap.size]? = some (.cells ⟨arr⟩ t (0,0)):=by have:=heap_alloc_new w1 (.cells ⟨arr⟩ t);rw[hw1]at this;exact this
 have hsz:(w1.alloc (.cells ⟨arr⟩ t)).heap.size=w.heap.size+1:=by rw[World.size_alloc,hw1]
 refine kZ hm hf ?_ ho ht hou hdr (by omega) (λb hb _=>hold b hb) (λg' hle hi=>hB g' _ hle hi hnew)
 intro b0 c e b hb;cases e;simp only[MO,Lb]at hb;subst hb
 exact .inl ⟨MN _,by omega,hown⟩
theorem moved(hm:LQ own g w m){rm id b:Nat}{cn:Nat×Nat×NS}{Vu:Nat×Nat}{w':World}{B0 B:Mg F}(hf:g.ids id=none)(h0:m rm=some B0)(ho0:B0.owned=true)(hi:g.ids rm=some (some (b,cn)))
  (ho:w'.os=w.os) (ht:w'.tape=w.tape) (hou:w'.output=w.output) (hdr:w.drawn≤w'.drawn) (hs:w'.heap.size=w.heap.size) (hne:∀b',b'≠b→w'.heap[b']? = w.heap[b']?)
  (hB:∀g',Le g w g' w'→g'.ids id=some (some (b,Vu.1,Vu.2,[]))→Na g' w' id B) :
  LQ own (g.name id (some (b,Vu.1,Vu.2,[]))) w' (Ml m [(rm,none),(id,some B)])∧Stp m g w (g.name id (some (b,Vu.1,Vu.2,[]))) w':=by
 refine kZ (rm:=[rm]) hm hf ?_ ho ht hou hdr (by omega) ?_ hB
 ·intro b0 c e b' hb;cases e;simp only[MO,Lb]at hb;subst hb
  exact .inr ⟨rm,by simp,B0,h0,ho0,G.MH hi⟩
 ·intro b' hb hno
  exact hne b' (λe=>hno rm (by simp) B0 h0 ho0 (e▸G.MH hi))
theorem G7(hm:LQ own g w m){rm:List Nat}{id:Nat}{t:Ty}(hf:g.ids id=none) :
  LQ own (g.name id none) w (Ml m (rm.map (λr=>(r,none))++[(id,some (.row t []))]))∧Stp m g w (g.name id none) w:=by
 have hle:Le g w (g.name id none) w:=.name hf (λ_ _=>rfl) (λ_ _=>rfl)
 have less:∀x,x≠id→∀B',Ml m (rm.map (λr=>(r,none))++[(id,some (.row t []))]) x=some B'→m x=some B':=by
  intro x hx B' h;rw[qS,if_neg hx]at h
  have gen:∀(rm:List Nat)(m:Nat→Option (Mg F)),Ml m (rm.map (λr=>(r,none))) x=some B'→m x=some B':=by
   intro rm
   induction rm with
   | nil=>intro m h;exact h
   | cons r rm ih=>
    intro m h;have:=ih _ h;split at this
    ·cases this
    ·exact this
  exact gen rm m h
 refine⟨?_,hle,rfl,rfl,rfl,MN _,λ_ _ _=>rfl,MN _⟩;refine hm.O_ (S:=λx=>x=id) hle less (λx hx=>cj _ _ _ hx) ?_ ?_ hm.Li hm.io hm.len
 ·intro x Bx b hx hB' ho' hb;exact⟨rfl,(hm.own x Bx b hB' ho' hb).2⟩
 ·rintro x B' rfl hB';rw[qS,if_pos rfl]at hB';cases hB';refine⟨.inl ⟨bv _ _ _,rfl⟩,?_⟩;rintro b _ ⟨b0,c',hc',_⟩;rw[bv]at hc';cases hc'
theorem Am(hm:LQ own g w m){id b:Nat}{old arr:List Value}{t:TypeId}{B B':Mg F}(hB:m id=some B)(ho:B.owned=true)(hblk:g.blk id b)(hb:w.heap[b]? = some (.cells ⟨old⟩ t (0,0)))
  (hB':(w.setRow b ⟨arr⟩).heap[b]? = some (.cells ⟨arr⟩ t (0,0))→Le g w g (w.setRow b ⟨arr⟩)→Na g (w.setRow b ⟨arr⟩) id B') :
  LQ own g (w.setRow b ⟨arr⟩) (Ml m [(id,some B')])∧Stp m g w g (w.setRow b ⟨arr⟩):=by
 have hne:∀b',b'≠b→(w.setRow b ⟨arr⟩).heap[b']? = w.heap[b']?:=λb' h=>setRow_other w b b' _ h;have Zq:¬ g.Li b:=(hm.own id B b hB ho hblk).2;have hle:Le g w g (w.setRow b ⟨arr⟩):=⟨λ_ _ h=>h,λ_ h=>h,λb' hb'=>hne b' (λe=>Zq (e▸hb')),λ_ h=>h,λb' hb'=>hne b' (λe=>(hm.len b' hb').1 (e▸(hm.own id B b hB ho hblk).1))⟩
 have less:∀x,x≠id→∀Bx,Ml m [(id,some B')] x=some Bx→m x=some Bx:=by intro x hx Bx h;simp only[Ml]at h;rw[ao (λe=>hx e.symm)]at h;simpa using h
 refine⟨?_,hle,rfl,rfl,rfl,by simp,?_,MN _⟩
 ·refine hm.O_ (S:=λx=>x=id) hle less (λ_ _=>rfl) ?_ ?_ ?_ hm.io (λb' hb'=>⟨(hm.len b' hb').1,by rw[size_setRow];exact(hm.len b' hb').2⟩)
  ·intro x Bx b' hx hBx hox hbx;refine⟨hne b' (λe=>hx ?_),(hm.own x Bx b' hBx hox hbx).2⟩;subst e;exact hm.SX x id Bx B b' hBx hB hox ho hbx hblk
  ·rintro x Bx rfl hBx;simp only[Ml,bC,if_true,NJ]at hBx;subst hBx;refine⟨hB' (setRow_heap w b _ _ t _ hb) hle,?_⟩;rintro b' hob hb';refine⟨(hm.own x B b' hB ho hb').1,(hm.own x B b' hB ho hb').2,?_⟩;intro y By hy hoy hby;by_cases hyx:y=x
   ·exact hyx
   ·exact hm.SX y x By B b' (less y hyx By hy) hB hoy ho hby hb'
  ·intro b' hb';rw[size_setRow];exact hm.Li b' hb'
 ·intro b' _ hno;exact hne b' (λe=>hno id B hB ho (e▸hblk))
theorem uf(hm:LQ own g w m){id b:Nat}{cn:Nat×Nat×NS}{old arr:List Value}{t:TypeId}{B B':Mg F}(hB:m id=some B)(ho:B.owned=true)(hi:g.ids id=some (some (b,cn)))(hb:w.heap[b]? = some (.cells ⟨old⟩ t (0,0)))
  (hB':(w.setRow b ⟨arr⟩).heap[b]? = some (.cells ⟨arr⟩ t (0,0))→Le g w g (w.setRow b ⟨arr⟩)→Na g (w.setRow b ⟨arr⟩) id B') :
  LQ own g (w.setRow b ⟨arr⟩) (Ml m [(id,some B')])∧Stp m g w g (w.setRow b ⟨arr⟩):=Am hm hB ho (G.MH hi) hb hB'
end
set_option linter.unusedVariables false
set_option linter.unusedSimpArgs false
section
variable{F:Fam}{P:Program}{T:TypeId→Option (TI F)}{o:Oper}{vals:List (Dat F)}{mm:Nat→Option (Mg F)}{c:Nat}{R:Type}{K:SS F→Option R}{own:Ow}{g g':G}{w w':World}{m m':Nat→Option (Mg F)}{u:Nat→Bool}{a:Act}
theorem pA(hm:LQ own g w m)(hd:∀id,u id=false→g.ids id=none)(hall:∀b,w.heap.size≤b→own.o b)(hfr:u c=false)
  {cn:Nat×Nat} {arr:List Value} {t:TypeId} {B:Mg F} {rm:List Nat} {d:Dat F} {w1:World} {v:Value} (hw1:w1.heap=w.heap) (ho:w1.os=w.os) (ht:w1.tape=w.tape) (hou:w1.output=w.output) (hdr:w.drawn≤w1.drawn)
  (hv:∀g' w',g'.ids c=some (some (w.heap.size,cn.1,cn.2,[]))→Ma P g' w' d v)
  (hB:∀g' w',Le g w g' w'→g'.ids c=some (some (w.heap.size,cn.1,cn.2,[]))→w'.heap[w.heap.size]? = some (.cells ⟨arr⟩ t (0,0))→Na g' w' c B)
  (hrun:(execOp a.eval o).run P w = .ok (.value v) (w1.alloc (.cells ⟨arr⟩ t))):PY P own m u g w o a c { val:=d,mw:=rm.map (λr=>(r,none))++[(c,some B)],nu:=1 }:=by
 have hf:g.ids c=none:=hd c hfr;obtain⟨k1,k2⟩:=made (rm:=rm) (cn:=cn) hm hf (hall _ (MN _)) hw1 ho ht hou hdr hB;intro next Q hn;unfold Oper.wp;rw[hrun];refine hn _ _ (g.name c (some (w.heap.size,cn.1,cn.2,[]))) (hv _ _ (bv _ _ _)) k1 k2 ?_;intro x hu hx;have hx:x<c∨c+1≤x:=hx
 have:x≠c:=by omega
 rw[cj _ _ _ this];exact hd x hu
theorem uE{Li:Nat→Prop}{cs ds:List (ND F)}(h:Tk cs ds){arr:List Value}(hr:∀(k:Nat)(d:ND F)(x:Value),cs[k]? = some d→arr[k]? = some x→L_ w Li d x) :
  ∀(k:Nat)(d:ND F)(x:Value),ds[k]? = some d→arr[k]? = some x→L_ w Li d x:=by
 intro k d x hd hx
 have hlt:k<cs.length:=by rw[h.1];exact(K_.1 hd).1
 exact(hr k _ x (K9 hlt) hx).Xu (h.2 k _ d (K9 hlt) hd)
theorem nT{cs ds cs' ds':List (ND F)}(h:Tk cs ds)(h':Tk cs' ds'):Tk (cs++cs') (ds++ds'):=by
 refine⟨by simp[h.1,h'.1],?_⟩
 intro k x y hx hy;by_cases hk:k<cs.length
 ·rw[Rv hk]at hx
  rw[Rv (by rw[← h.1];exact hk)]at hy
  exact h.2 k x y hx hy
 ·rw[RF (by omega)]at hx
  rw[RF (by rw[← h.1];omega),← h.1]at hy
  exact h'.2 _ x y hx hy
theorem pg{tt:Ty}{sz:Nat}(hs:LY F tt=sz):∀{n:Nat}{ds:List (ND F)} {l:List (ET F tt)},na tt sz n ds=some l→ds.length=n*sz→l.length=n∧Tk ds (cells F tt l)
 | 0,ds,l,h,hl=>by
  simp only[na,NJ]at h;subst h
  have:ds = []:=Ui (by simpa using hl)
  subst this
  exact⟨rfl,rfl,by simp⟩
 | n+1,ds,l,h,hl=>by
  simp only[na]at h;split at h
  ·cases h
  ·rename_i x hx;split at h
   ·cases h
   ·rename_i r hr;cases h
    have hlen:(ds.drop sz).length=n*sz:=by rw[Ro,hl,TF];omega
    obtain⟨h1,h2⟩:=pg hs hr hlen
    refine⟨by simp[h1],?_⟩
    have:=nT (cA F hx) h2;rw[X0]at this;simpa[cells]using this
theorem Hu(hT:Mc P T)(hm:LQ own g w m)(hle:P6 mm m)(hd:∀id,u id=false→g.ids id=none)(hall:∀b,w.heap.size≤b→own.o b)(hfr:u c=false){elem:TypeId}{cs:List (MJ F)}{v:Value}
  (hl:v.cells.toList.length=cs.length) (hr:∀(k:Nat)(x:MJ F)(y:Value),cs[k]? = some x→v.cells.toList[k]? = some y→Mh g w x y)
  (hrun:(execOp a.eval o).run P w = .ok (.value (.pointer (some ⟨w.heap.size,0,none⟩))) (w.alloc (.cells v.cells elem))):PY P own m u g w o a c { val:=.c (.ptr c 0),mw:=[(c,some (.box cs))],nu:=1 }:=by
 refine pA (rm:=[]) (cn:=(0,0)) (arr:=v.cells.toList) (t:=elem) hm hd hall hfr (w1:=w) rfl rfl rfl rfl (MN _) (λg' w' hi=>.c (.ptr hi)) ?_ hrun;intro g' w' hle hi hh;exact⟨w.heap.size,(0,0),v.cells.toList,elem,hi,hh,hl,λk c x h1 h2=>(hr k c x h1 h2).le hle⟩
theorem yb(hT:Mc P T){elem:TypeId}{cs:List (MJ F)}
  (hsrc:cs.all MJ.RO=true→0<cs.length→∀(g:G)(w:World)(a:Act),MF P g w vals (o.op.operands.toList.map a.eval)→∃v:Value,v.cells.toList.length=cs.length∧
   (∀(k:Nat)(x:MJ F)(y:Value),cs[k]? = some x→v.cells.toList[k]? = some y→Mh g w x y)∧(execOp a.eval o).run P w = .ok (.value (.pointer (some ⟨w.heap.size,0,none⟩))) (w.alloc (.cells v.cells elem))) :
  Rule P o vals mm c K (X4 T mm c K elem cs):=by
 unfold X4;split
 ·exact af
 ·rename_i ti hti;refine aA (λhc=>?_) (λ_=>af);simp only[Np,decide_eq_true_eq,R7]at hc;obtain⟨⟨h1,h2⟩,h3⟩:=hc;have src:=hsrc h2 h3
  have apI:Rule P o vals mm c K (K { val:=.c (.ptr c 0),mw:=[(c,some (.box cs))],nu:=1 }):=by
   intro r hr;refine⟨_,hr,?_⟩;intro own g w a m u hle hm hd hall hfr hrep;obtain⟨v,k1,k2,k3⟩:=src g w a hrep
   exact Hu hT hm hle hd hall (hfr 0 (by simp)) k1 k2 k3
  split
  ·rename_i len e hde;split
   ·exact af
   ·rename_i te hte;split
    ·exact af
    ·rename_i tt V_;split
     ·exact af
     ·rename_i ds fz hds;split
      ·exact af
      ·rename_i l hl;refine aA (λ_=>af) (λhc=>?_);simp only[UC,decide_eq_true_eq,bne_iff_ne,ne_eq,not_or,Decidable.not_not,U3,QgE]at hc;obtain⟨⟨⟨⟨c1,c2⟩,c3⟩,c4⟩,c5⟩:=hc
       have c4:=U4 (by simpa using c4)
       have c5:fz = []:=by simpa using c5
       subst c5;intro r hr;refine⟨_,hr,?_⟩;intro own g w a m u hle hm hd hall hfr hrep;obtain⟨v,k1,k2,k3⟩:=src g w a hrep;obtain⟨q1,q2⟩:=pg c3 hl c2
       refine pA (rm:=[]) (cn:=(len,l.length)) (arr:=v.cells.toList) (t:=elem) hm hd hall (hfr 0 (by simp)) (w1:=w) rfl rfl rfl rfl (MN _) (λg' w' hi=>.c (.ptr hi)) ?_ k3
       intro g' w' hle' hi hh
       refine .inr ⟨w.heap.size,len,v.cells.toList,elem,hi,hh,by omega,by simp only[maxLen];omega,?_,?_⟩
       ·rw[k1,← iz hds,c2,c3]
       ·intro k d x h4 h5
        exact(uE q2 (jJ hm hle hds (Le.refl g w) (by simp) v.cells.toList k2) k d x h4 h5).le hle'
  ·exact apI
theorem DF(hT:Mc P T){elem:TypeId}(ho:o.op = .alloc elem):Rule P o vals mm c K (match T elem with | some ti=>X4 T mm c K elem (ti.zero.map .im) | none=>none):=by
 split
 ·rename_i ti hti;refine yb hT ?_;intro _ _ g w a _;obtain⟨j,z,hj,hz,hzl,hzr⟩:=wJ hT hti
  exact⟨z,hzl,hzr w g,by simp[execOp,ho,Instr.alloc,zeroValue,typeInfo,hj,hz,newVar,newRow]⟩
 ·exact af
theorem HK(hT:Mc P T){elem:TypeId}{x:Operand}(ho:o.op = .box elem x):Rule P o vals mm c K (match vals with | [x]=>X4 T mm c K elem x.cells | _=>none):=by
 split
 ·rename_i d;refine yb hT ?_;intro h1 h2 g w a hr;rw[ho]at hr;obtain⟨k1,k2,_⟩:=mz (Nw hr) h1 h2
  exact⟨a.eval x,k1,k2,by simp[execOp,ho,Instr.box,newVar,newRow]⟩
 ·exact af
theorem fj{α : Type}(l:List α)(h0:0<l.length):∀(n k:Nat),k<n*l.length→(List.replicate n l).flatten[k]? = l[k % l.length]?
 | 0,k,h=>by omega
 | n+1,k,h=>by
  simp only[QgL,YB];by_cases hk:k<l.length
  ·rw[Rv hk,Nat.mod_eq_of_lt hk]
  ·have hb:k - l.length<n*l.length:=by rw[TF]at h;omega
   rw[RF (by omega),fj l h0 n (k - l.length) hb]
   congr 1
   exact(Nat.mod_eq_sub_mod (by omega)).symm
theorem qI(hT:Mc P T){e:TypeId}{te:TI F}(he:T e=some te)(h0:0<te.size)(n:Nat):∃(j:TypeInfo)(z:Value),P.info? e=some j∧j.size=te.size∧j.bytes=te.bytes∧j.zero=some z∧z.cells.size=te.size∧
  (madeCells z.cells (n*te.size)).toList.length=(List.replicate n te.zero).flatten.length∧te.zero.length=te.size∧
  ∀(w:World)(Li:Nat→Prop)(k:Nat)(d:ND F) (x:Value),(List.replicate n te.zero).flatten[k]? = some d→(madeCells z.cells (n*te.size)).toList[k]? = some x→L_ w Li d x:=by
 obtain⟨j,hj,hs,hb,z,hz,hzs,hzl,hr⟩:=hT.info e te he
 have hfl:(List.replicate n te.zero).flatten.length=n*te.size:=by
  rw[lp (sz:=te.size) (λx hx=>by rw[List.mem_replicate]at hx;rw[hx.2,hzl])]
  simp
 refine⟨j,z,hj,hs,hb,hz,hzs,by rw[hfl];simp[madeCells],hzl,?_⟩
 intro w Li k d x h1 h2
 have hk:k<n*te.size:=by rw[← hfl];exact(K_.1 h1).1
 rw[fj te.zero (by omega) n k (by rw[hzl];exact hk),hzl]at h1
 simp only[madeCells,Array.toList_map,Rf,Array.toList_range]at h2;rw[QgJ hk]at h2;simp only[Xy,NJ]at h2
 have hlt:k % te.size<z.cells.size:=by rw[hzs];exact Nat.mod_lt _ h0
 rw[hzs,getElem!_pos z.cells (k % te.size) hlt]at h2
 exact hr w Li (k % te.size) d x h1 (by rw[QeI hlt,h2])
theorem KH{α : Type}{b:Nat}{n m:Int}{z:α}{r:List α}(h:V9 b n m z=some r):0≤n∧n≤m∧m.toNat≤maxLen∧b*m.toNat≤281474976710656∧r=List.replicate n.toNat z:=by
 unfold V9 at h;split at h
 ·rename_i hc;cases h;exact⟨hc.1,hc.2.1,hc.2.2.1,hc.2.2.2,rfl⟩
 ·cases h
theorem xD(hT:Mc P T){t:TypeId}{x y:Operand}(ho:o.op = .makeSlice t x y):Rule P o vals mm c K (WX T vals c K t):=by
 unfold WX;split
 ·rename_i e _ _ _ _ _ ht;split
  ·exact af
  ·rename_i te hte;split
   ·exact af
   ·rename_i tt V_;refine aA (λ_=>af) (λhz0=>?_);split
    ·rename_i k n k' n' zz hzz;refine aE λl hl=>?_;obtain⟨v1,v2,v3,v4,rfl⟩:=KH hl;intro r hr;refine⟨_,hr,?_⟩;intro own g w a m u hle hm hd hall hfr hrep;rw[ho]at hrep;simp only[Op.operands,M9,Oi]at hrep;obtain⟨h1,h2⟩:=M5 hrep
     obtain⟨j,z,hj,hs,hb,hz,hzs,hml,hzl,hmr⟩:=qI hT hte (by omega) n'.toNat
     have hn:(n'.toNat:Int)=n':=QgK (by omega)
     have hb6:(j.bytes:Int)*n'≤281474976710656:=by rw[hb,← hn,← Int.natCast_mul];omega
     have hm63:n'≤9223372036854775807:=by have h:=v3;simp only[maxLen]at h;omega
     have hrun:=run_make (P:=P) w t e j z (hT.und _ _ ht) hj hz k k' n n' v1 v2 hb6 hm63;rw[hs]at hrun;have hsz:=hT.ty e te tt hte V_
     refine pA (rm:=[]) (cn:=(n'.toNat,n.toNat)) (arr:=(madeCells z.cells (n'.toNat*te.size)).toList) (t:=e) hm hd hall (hfr 0 (by simp)) (w1:=w) rfl rfl rfl rfl (MN _) ?_ ?_ (v:=.slice (some ⟨w.heap.size,0,none⟩) n.toNat n'.toNat) ?_
     ·intro g' w' hi
      exact .c (.Nn hi (by omega) v3)
     ·intro g' w' hle' hi hh
      refine .inr ⟨w.heap.size,n'.toNat,_,e,by simpa using hi,hh,by simp;omega,v3,by simp[madeCells,hsz],?_⟩
      have hz2:Tk te.zero (LZ F tt zz):=cA F hzz;intro k d x h3 h4
      have hlen:(cells F tt (List.replicate n.toNat zz)).length=n.toNat*LY F tt:=by rw[aH,List.length_replicate]
      have hk:k<n.toNat*LY F tt:=by rw[← hlen];exact(K_.1 h3).1
      have hlz:(LZ F tt zz).length=te.size:=by rw[bo,hsz]
      have e1:(cells F tt (List.replicate n.toNat zz))=(List.replicate n.toNat (LZ F tt zz)).flatten:=by simp[cells]
      rw[e1,fj _ (by rw[hlz];omega) n.toNat k (by rw[hlz,← hsz];exact hk),hlz]at h3
      have hk2:k<n'.toNat*te.zero.length:=by
       rw[hzl];rw[hsz]at hk
       have:n.toNat*te.size≤n'.toNat*te.size:=Rp _ (by omega)
       omega
      have hk3:k % te.size<te.zero.length:=by rw[hzl];exact Nat.mod_lt _ (by omega)
      have e2:(List.replicate n'.toNat te.zero).flatten[k]? = some te.zero[k % te.size]:=by
       rw[fj te.zero (by omega) n'.toNat k hk2,hzl,K9 hk3]
      exact(hmr _ _ k _ x e2 h4).Xu (hz2.2 (k % te.size) _ d (K9 hk3) h3)
     ·simp only[execOp,ho,cv h1,cv h2,OA,hrun,OM,PD]
    ·exact af
 ·exact af
theorem DB{t:TypeId}{x y:Operand}{n:Nat}(h:rK T t x y=some n):∃ti e k1 k2 b d q z,T t=some ti∧ti.desc = .slice e∧x = .const (.int k1 n)∧y = .const (.int k2 n)∧T e=some ⟨.slice d,1,b,[.nl],q,z⟩∧0<n∧n≤8∧b≤1000:=by
 unfold rK at h;split at h
 ·rename_i e _ _ _ _ _ n' m' ht hx hy;split at h
  ·rename_i d b q z he;split at h
   ·rename_i hc;obtain⟨rfl,h1,h2,h3⟩:=hc;cases h
    have lit:∀{x:Operand}{n:Nat},aap x=some n→∃k,x = .const (.int k n):=by
     intro x n hx;unfold aap at hx;split at hx
     ·cases hx;exact⟨_,rfl⟩
     ·cases hx
    obtain⟨k1,e1⟩:=lit hx;obtain⟨k2,e2⟩:=lit hy;exact⟨_,e,k1,k2,b,d,q,z,ht,rfl,e1,e2,he,h1,h2,h3⟩
   ·cases h
  ·cases h
 ·cases h
theorem C5(hT:Mc P T){t:TypeId}{x y:Operand}(ho:o.op = .makeSlice t x y){n:Nat}(hn:rK T t x y=some n):Rule P o vals mm c K (E8 c K n):=by
 obtain⟨ti,e,k1,k2,b,d,q,zz,ht,hde,rfl,rfl,hte,n1,n2,n3⟩:=DB hn;have hu:=hT.und _ _ ht;rw[hde]at hu;intro r hr;refine⟨_,hr,?_⟩;intro own g w a m u hle hm hd hall hfr hrep
 obtain⟨j,z,hj,hs,hb,hz,hzs,hml,hzl,hmr⟩:=qI hT hte (by simp) n
 have hs:j.size=1:=hs;have hb:j.bytes=b:=hb
 have hb6:(j.bytes:Int)*(n:Int)≤281474976710656:=by rw[hb,← Int.natCast_mul];have:b*n≤1000*8:=QeS n3 n2;omega
 have hrun:=run_make (P:=P) w t e j z hu hj hz k1 k2 n n (by omega) (Uj _) hb6 (by omega)
 rw[hs]at hrun;simp only[Tz,Nat.mul_one]at hrun
 have hml':(madeCells z.cells n).toList.length=n:=by simp[madeCells]
 refine pA (rm:=[]) (cn:=(0,0)) (arr:=(madeCells z.cells n).toList) (t:=e) hm hd hall (hfr 0 (by simp)) (w1:=w) rfl rfl rfl rfl (MN _) ?_ ?_ (v:=.slice (some ⟨w.heap.size,0,none⟩) n n) ?_
 ·intro g' w' hi
  exact .c (.Tx hi (by simp only[maxLen];omega))
 ·intro g' w' hle' hi hh
  refine⟨w.heap.size,(0,0),_,e,hi,hh,by rw[hml'];simp,?_⟩
  intro k cc v h1 h2;rw[List.getElem?_replicate]at h1;split at h1
  ·rename_i hk;cases h1
   have e2:(List.replicate n ([.nl]:List (ND F))).flatten[k]? = some .nl:=by
    rw[fj _ (by simp) n k (by simpa using hk)]
    simp[Nat.mod_one]
   have:=hmr w' g'.Li k .nl v e2 (by simpa using h2)
   exact .im this
  ·cases h1
 ·simp only[execOp,ho,OA,Act.eval,hrun,OM,PD]
theorem rI(hT:Mc P T){t:TypeId}{len:Nat}{parts:Array (Nat×Operand)}(ho:o.op = .buildSlice t len parts){el:TypeId}{i te:TI F}(ht:T t=some i)(hde:i.desc = .slice el)(hte:T el=some te)(hs0:¬ te.size=0)(hs1:¬ 1048576<len*te.size){cs:List (MJ F)}
  (hcs:lay (λi=>some (i*te.size,te.size)) ((List.replicate len te.zero).flatten.map .im) ((parts.toList.map (·.1)).zip vals)=some cs) (hrep:MF P g w vals (o.op.operands.toList.map a.eval)) :
  ∃arr:List Value,arr.length=cs.length∧(∀(k:Nat)(c:MJ F)(x:Value),cs[k]? = some c→arr[k]? = some x→Mh g w c x)∧(execOp a.eval o).run P w = .ok (.value (.slice (some ⟨w.heap.size,0,none⟩) len len)) (w.alloc (.cells ⟨arr⟩ el)):=by
 rw[ho]at hrep
 have aky:MF P g w vals (parts.toList.map λp=>a.eval p.2):=by
  have:(Op.buildSlice t len parts).operands.toList.map a.eval=parts.toList.map λp=>a.eval p.2:=by simp[Op.operands,Function.comp_def]
  rwa [this]at hrep
 have h0:0<te.size:=by omega
 obtain⟨j,z,hj,hs,hb,hz,hzs,hml,hzl,hmr⟩:=qI hT hte h0 len;obtain⟨p1,p2⟩:=tJ parts.toList vals aky;obtain⟨arr,r1,r2,r3,r4⟩:=u5 (P:=P) (g:=g) (w:=w) (λi=>some (i*te.size,te.size)) _ (parts.toList.map λ(i,x)=>(i,a.eval x)) _ cs (madeCells z.cells (len*te.size)).toList hcs p1 p2
  (by rw[hml,Py]) (by intro k c x h1 h2;obtain⟨d,hd',rfl⟩:=j6 h1;exact .im (hmr w g.Li k d x hd' h2))
 have hrun:(execOp a.eval o).run P w = .ok (.value (.slice (some ⟨w.heap.size,0,none⟩) len len)) (w.alloc (.cells ⟨arr⟩ el)):=by
  have hu:=hT.und _ _ ht;rw[hde]at hu;have hu:=run_underlying hu w;have hsz:=b_ hT hte w
  have Xi:Instr.fill (λi=>some (i*te.size,te.size)) (madeCells z.cells (len*te.size)) (parts.map λ(i,x)=>(i,a.eval x)).toList=some ⟨arr⟩:=by simpa using r1
  unfold madeCells at Xi
  have hzv:(zeroValue el).run P w = .ok z w:=by simp[zeroValue,typeInfo,hj,hz]
  have hbig:¬ (16777216<len*te.size):=by omega
  by_cases hz0:len*te.size=0
  ·have hl0:len=0:=by
    rcases Nat.mul_eq_zero.1 hz0 with h | h
    ·exact h
    ·omega
   subst hl0
   have e0:∀z0:Array Value,(Array.range (0*te.size)).map (λx=>z0[x % z0.size]!) = #[]:=λz0=>by simp
   rw[e0]at Xi;simp only[execOp,ho,Instr.buildSlice,OA,hu,OM,hsz]
   rw[if_neg (by simp),if_pos hz0]
   simp only[PD,OM,e0,Xi,newRow,OA,run_newObj,World.alloc_eq]
  ·simp only[execOp,ho,Instr.buildSlice,OA,hu,OM,hsz]
   rw[if_neg (by simpa using hbig),if_neg hz0]
   simp only[OA,hzv,OM,PD,Xi,newRow,run_newObj,World.alloc_eq]
 exact⟨arr,r2,r4,hrun⟩
theorem wG(hT:Mc P T){t:TypeId}{len:Nat}{parts:Array (Nat×Operand)}(ho:o.op = .buildSlice t len parts):Rule P o vals mm c K (rf T vals mm c K t len (parts.toList.map (·.1))):=by
 unfold rf;split
 ·rename_i el sz bt zero _ _ ht;split
  ·exact af
  ·rename_i te hte;split
   ·exact af
   ·rename_i tt V_;refine aA (λ_=>af) (λhsm=>?_);simp only[UC,decide_eq_true_eq,not_or,R7,bne_iff_ne,ne_eq,Decidable.not_not]at hsm;obtain⟨⟨hs0,hs1⟩,hsz⟩:=hsm;split
    ·exact af
    ·rename_i cs hcs;split
     ·exact af
     ·rename_i ds fz hds;split
      ·exact af
      ·rename_i l hl;refine aA (λhc=>?_) (λ_=>af);simp only[Np,decide_eq_true_eq]at hc;obtain⟨hlen,_⟩:=hc;intro r hr;refine⟨_,hr,?_⟩;intro own g w a m u hle hm hd hall hfr hrep;have hf:R4 mm fz:=R4.Po (oy hds);refine z_ (res:={ val:=.c (.Nn c),mw:=[(c,some (.row tt l))],nu:=1 }) hle hf ?_;have hm1:=mU hm hle hf
       have h0:0<te.size:=by omega
       obtain⟨arr,r2,r4,hrun⟩:=rI hT ho ht rfl hte hs0 hs1 hcs hrep;obtain⟨q1,q2⟩:=pg hsz hl hlen;have hcell:=jJ hm hle hds (pE g w fz) (λid hid b hb=>.inr ⟨id,hid,hb⟩) arr r4
       have hml':len≤maxLen:=by have:len≤len*te.size:=Nat.le_mul_of_pos_right _ h0;simp only[maxLen];omega
       refine pA (rm:=[]) (cn:=(len,len)) (arr:=arr) (t:=el) hm1 hd hall (hfr 0 (by simp)) (w1:=w) rfl rfl rfl rfl (MN _) (λg' w' hi=>.c (.Nn hi (MN _) hml')) ?_ hrun
       intro g' w' hle' hi hh
       refine .inr ⟨w.heap.size,len,arr,el,by rw[q1];exact hi,hh,by omega,hml',?_,?_⟩
       ·rw[r2,← iz hds,hlen,hsz]
       ·intro k d x h1 h2;exact(uE q2 hcell k d x h1 h2).le hle'
 ·exact af
def Vk(g:G):Option Nat→Option (Nat×Nat×Nat)
 | some id=>match g.ids id with
  | some (some (b,c,n,_))=>some (b,c,n)
  | _=>none
 | none=>none
theorem Kc{id b:Nat}{c:Nat×Nat}(h:Vk g (some id)=some (b,c)):g.blk id b:=by
 simp only[Vk]at h;split at h
 ·rename_i h1;cases h;exact G.MH h1
 ·cases h
theorem GC(hm:LQ own g w m){id:Nat}{t:Ty}{l:List (ET F t)}(h:m id=some (.row t l)):da w g.Li t l (Nt (Vk g (some id))):=by
 rcases hm.ok id _ h with⟨h1,h2⟩ | ⟨b,cap,cur,e,k1,k2,k3,k4,k5,k6⟩
 ·simp[Vk,h1,Nt,da,h2]
 ·have:Vk g (some id)=some (b,cap,l.length):=by simp[Vk,k1]
  rw[this];exact⟨rfl,k3,k4,cur,e,k2,k5,k6⟩
theorem Ib(hm:LQ own g w m){id:Nat}{t:Ty}{l:List (ET F t)}(h:m id=some (.row t l)){v:Value}(hv:Mh (F:=F) g w (.Nn id) v):Ol (Nt (Vk g (some id))) v:=by
 rcases bu hv with⟨hi,p,rfl⟩ | ⟨b,c,n,hi,h1,h2,rfl⟩
 ·simp[Vk,hi,Nt,Ol]
 ·obtain⟨rfl,_,_⟩:=cV hm h hi;simp[Vk,hi,Nt,Ol]
theorem uO:∀{cs:List (MJ F)} {ds:List (ND F)} {os:List (Option Nat)},nG mm cs=some (ds,os)→ds.length=cs.length∧os.length=cs.length∧∀(k:Nat)(c:MJ F)(d:ND F)(o:Option Nat),cs[k]? = some c→ds[k]? = some d→os[k]? = some o→
  (∃id t l,c = .Nn id∧mm id=some (.row t l)∧d = .sl t l∧o=some id)∨(c = .im .nl∧d = .nl∧o=none)∨(c = .im d∧d.flat=true∧o=none)
 | [],ds,os,h=>by
  simp only[nG,NJ,Prod.mk.injEq]at h;obtain⟨rfl,rfl⟩:=h
  exact⟨rfl,rfl,λk c d o h=>by simp at h⟩
 | c::r,ds,os,h=>by
  have next:∀{d':ND F}{o':Option Nat}{ds':List (ND F)} {os':List (Option Nat)},nG mm r=some (ds',os')→
    ((∃id t l,c = .Nn id∧mm id=some (.row t l)∧d' = .sl t l∧o'=some id)∨(c = .im .nl∧d' = .nl∧o'=none)∨(c = .im d'∧d'.flat=true∧o'=none))→
    (d'::ds').length=(c::r).length∧(o'::os').length=(c::r).length∧∀(k:Nat)(c0:MJ F)(d:ND F)(o:Option Nat),(c::r)[k]? = some c0→(d'::ds')[k]? = some d→(o'::os')[k]? = some o→
     (∃id t l,c0 = .Nn id∧mm id=some (.row t l)∧d = .sl t l∧o=some id)∨(c0 = .im .nl∧d = .nl∧o=none)∨(c0 = .im d∧d.flat=true∧o=none):=by
   intro d' o' ds' os' h1 h2;obtain⟨k1,k2,k3⟩:=uO h1
   refine⟨by simp[k1],by simp[k2],?_⟩
   intro k c0 d o q1 q2 q3
   cases k with
   | zero=>simp only[PW,NJ]at q1 q2 q3;subst q1 q2 q3;exact h2
   | succ k=>exact k3 k c0 d o (by simpa using q1) (by simpa using q2) (by simpa using q3)
  unfold nG at h;split at h
  ·rename_i heq;cases heq
  ·rename_i id r' heq;cases heq;split at h
   ·rename_i t l hrow;split at h
    ·rename_i ds' os' hr;cases h;exact next hr (.inl ⟨id,t,l,rfl,hrow,rfl,rfl⟩)
    ·cases h
   ·cases h
  ·rename_i r' heq;cases heq;split at h
   ·rename_i ds' os' hr;cases h;exact next hr (.inr (.inl ⟨rfl,rfl,rfl⟩))
   ·cases h
  ·rename_i d r' hnn heq;cases heq;split at h
   ·rename_i hf;split at h
    ·rename_i ds' os' hr;cases h;exact next hr (.inr (.inr ⟨rfl,hf,rfl⟩))
    ·cases h
   ·cases h
  ·cases h
theorem rS{x:Nat}:∀{l:List (Option Nat)},x∈Mq l↔some x∈l
 | []=>by simp[Mq]
 | none::l=>by simp[Mq,rS (l:=l)]
 | some y::l=>by simp[Mq,rS (l:=l)]
theorem sI(hm:LQ own g w m):∀{os:List (Option Nat)},d9 (Mq os)=true→(∀id,some id∈os→∃B,m id=some B∧B.owned=true)→(MO (os.map (Vk g))).Nodup∧∀b∈MO (os.map (Vk g)),∃id,some id∈os∧g.blk id b
 | [],_,_=>⟨Z6,λb hb=>by simp[MO]at hb⟩
 | none::os,hn,ho=>by
  obtain⟨h1,h2⟩:=sI hm (os:=os) (by simpa[Mq]using hn) (λid hid=>ho id (by simp[hid]))
  refine⟨by simpa[Vk,MO]using h1,λb hb=>?_⟩
  obtain⟨id,q1,q2⟩:=h2 b (by simpa[Vk,MO]using hb)
  exact⟨id,by simp[q1],q2⟩
 | some id::os,hn,ho=>by
  simp only[Mq,d9,Np,U3]at hn
  obtain⟨h1,h2⟩:=sI hm (os:=os) hn.2 (λid hid=>ho id (by simp[hid]))
  simp only[M9]
  cases hp:Vk g (some id)with
  | none=>
   refine⟨by simpa[MO]using h1,λb hb=>?_⟩
   obtain⟨id,q1,q2⟩:=h2 b (by simpa[MO]using hb)
   exact⟨id,by simp[q1],q2⟩
  | some q=>
   obtain⟨b0,c0⟩:=q;have hb0:=Kc hp;refine⟨?_,?_⟩
   ·simp only[MO,Ug];refine⟨λhb=>?_,h1⟩;obtain⟨id',q1,q2⟩:=h2 b0 hb
    obtain⟨B,r1,r2⟩:=ho id (by simp)
    obtain⟨B',r3,r4⟩:=ho id' (by simp[q1])
    have:=hm.SX id id' B B' b0 r1 r3 r2 r4 hb0 q2;subst this;have:=aN.2 (rS.2 q1);rw[this]at hn;cases hn.1
   ·intro b hb;simp only[MO,Nz]at hb;rcases hb with rfl | hb
    ·exact⟨id,by simp,hb0⟩
    ·obtain⟨id,q1,q2⟩:=h2 b hb
     exact⟨id,by simp[q1],q2⟩
theorem I_{t:Ty}{c:ND F}{x:ET F t}(h:Vf F t c=some x):enc1 F t x≠.nl:=by
 unfold Vf at h
 split at h<;>first | (intro e;cases e;done) | cases h
theorem CQ:∀{ts:List Ty}{cs:List (ND F)} {a:M7 F ts},Ve F ts cs=some a→∀d∈OU F ts a,d≠.nl
 | [],cs,a,h,d,hd=>by simp[OU]at hd
 | t::r,cs,a,h,d,hd=>by
  cases cs with
  | nil=>simp[Ve]at h
  | cons c cs=>
   simp only[Ve]at h;split at h
   ·cases h
   ·rename_i x hx;split at h
    ·cases h
    ·rename_i y hy;cases h;rcases Nz.1 hd with rfl | hd
     ·exact I_ hx
     ·exact CQ hy d hd
theorem rt{t:Ty}{cs:List (ND F)}{x:ET F t}(h:O4 F t cs=some x):∀d∈LZ F t x,d≠.nl:=by
 unfold O4 at h;split at h
 ·split at h
  ·cases h
  ·rename_i a ha;cases h;simp only[LZ,F.um];exact CQ ha
 all_goals first | (intro d hd;simp only[LZ,Lb]at hd;subst hd;intro e;cases e;done) | cases h
theorem F7{Li:Nat→Prop}{d d':ND F}{x:Value}(hf:d.flat=true)(hl:U5 d d')(h:L_ w Li d x):Ov w Li d' x none:=by
 cases hl with
 | refl=>
  cases d with
  | sl t' l'=>cases hf
  | _=>exact⟨rfl,hf,h⟩
 | nl t'=>cases hf
theorem yf{tt:Ty}{sz:Nat}:∀{n:Nat}{ds:List (ND F)} {l:List (ET F tt)},na tt sz n ds=some l→∀d∈cells F tt l,d≠.nl
 | 0,ds,l,h,d,hd=>by simp only[na,NJ]at h;subst h;simp[cells]at hd
 | n+1,ds,l,h,d,hd=>by
  simp only[na]at h;split at h
  ·cases h
  ·rename_i x hx;split at h
   ·cases h
   ·rename_i r hr;cases h;simp only[cells,M9,YB,OB]at hd;rcases hd with hd | hd
    ·exact rt hx d hd
    ·exact yf hr d hd
theorem vm(hT:Mc P T){t:TypeId}{len:Nat}{parts:Array (Nat×Operand)}(ho:o.op = .buildSlice t len parts):Rule P o vals mm c K (qj T vals mm c K t len (parts.toList.map (·.1))):=by
 unfold qj;split
 ·rename_i el sz bt zero _ _ ht;split
  ·exact af
  ·rename_i te hte;split
   ·exact af
   ·rename_i tt V_;refine aA (λ_=>af) (λhsm=>?_);simp only[UC,decide_eq_true_eq,not_or,R7,bne_iff_ne,ne_eq,Decidable.not_not]at hsm;obtain⟨⟨hs0,hs1⟩,hsz⟩:=hsm;split
    ·exact af
    ·rename_i cs hcs;split
     ·exact af
     ·rename_i ds os hds;split
      ·exact af
      ·rename_i l hl;refine aA (λhc=>?_) (λ_=>af);simp only[Np,decide_eq_true_eq]at hc;obtain⟨hlen,hnd⟩:=hc;intro r hr;refine⟨_,hr,?_⟩;intro own g w a m u hle hm hd hall hfr hrep
       have h0:0<te.size:=by omega
       obtain⟨arr,r2,r4,hrun⟩:=rI hT ho ht rfl hte hs0 hs1 hcs hrep;obtain⟨q1,q2⟩:=pg hsz hl hlen
       have hml':len≤maxLen:=by have:len≤len*te.size:=Nat.le_mul_of_pos_right _ h0;simp only[maxLen];omega
       obtain⟨n1,n2,n3⟩:=uO hds
       have hrows:∀id,some id∈os→∃t l,m id=some (.row t l):=by
        intro id hid;obtain⟨k,hk⟩:=XT hid;have hlt:=(K_.1 hk).1
        rcases n3 k _ _ _ (K9 (by omega)) (K9 (by omega)) hk with⟨id',t',l',_,e2,_,e4⟩ | ⟨_,_,e⟩ | ⟨_,_,e⟩
        ·cases e4;exact⟨t',l',hle _ _ e2⟩
        ·cases e
        ·cases e
       have WL:∀id,some id∈os→∃B,m id=some B∧B.owned=true:=λid hid=>by obtain⟨t',l',h⟩:=hrows id hid;exact⟨_,h,rfl⟩
       obtain⟨d1,d2⟩:=sI hm hnd WL;have hold:∀b,b<w.heap.size→(w.alloc (.cells ⟨arr⟩ el)).heap[b]? = w.heap[b]?:=λb hb=>heap_alloc_old w _ b hb
       have hlow:∀b∈MO (os.map (Vk g)),b<w.heap.size:=by intro b hb;obtain⟨id,e1,e2⟩:=d2 b hb;obtain⟨B,e3,e4⟩:=WL id e1;exact(hm.ok id B e3).place hm.Li (Mg.PU e4) e2
       have hR:LQ own (g.name c (some (w.heap.size,len,len,os.map (Vk g)))) (w.alloc (.cells ⟨arr⟩ el)) (Ml m ((Mq os).map (λr=>(r,none))++[(c,some (.Nc tt l))]))∧Stp m g w (g.name c (some (w.heap.size,len,len,os.map (Vk g)))) (w.alloc (.cells ⟨arr⟩ el)):=by
        refine kZ (rm:=Mq os) hm (hd c (hfr 0 (by simp))) ?_ rfl rfl rfl (MN _) (by rw[World.size_alloc];omega) (λb hb _=>hold b hb) ?_
        ·intro b0 c0 e b hb;cases e;rcases Nz.1 hb with rfl | hb
         ·exact .inl ⟨MN _,by rw[World.size_alloc];omega,hall _ (MN _)⟩
         ·obtain⟨id,e1,e2⟩:=d2 b hb;obtain⟨B,e3,e4⟩:=WL id e1;exact .inr ⟨id,rS.2 e1,B,e3,e4,e2⟩
        ·intro g' hle' hi'
         have hcl:(cells F tt l).length=len*te.size:=by rw[aH,q1,hsz]
         refine⟨_,hi',q1.symm,by rw[q1];exact MN _,hml',?_,?_,arr,el,heap_alloc_new w _,?_,?_⟩
         ·rw[Py,n2,← n1,hlen,hcl]
         ·refine Ug.2 ⟨λhb=>?_,d1⟩;have:=hlow _ hb;omega
         ·rw[r2,← n1,hlen,hsz]
         ·intro k d x pl p1 p2 p3
          have hk:k<cs.length:=by rw[← r2];exact(K_.1 p2).1
          rw[Rf,Wi]at p3;obtain⟨o',ho',rfl⟩:=p3
          have hdk:ds[k]? = some ds[k]:=K9 (by omega)
          have hl1:U5 ds[k] d:=q2.2 k _ d hdk p1;have hrep:=r4 k _ x (K9 hk) p2;refine Ov.O_ (w:=w) (Li:=g.Li) hle'.Li hle'.heap ?_ ?_
          ·intro b c1 e
           exact hold b (hlow b (jI (k:=k) (c:=c1) (by rw[Rf,ho'];exact congrArg some e)))
          ·rcases n3 k _ _ _ (K9 hk) hdk ho' with⟨id,t',l',e1,e2,e3,rfl⟩ | ⟨e1,e2,rfl⟩ | ⟨e1,e2,rfl⟩
           ·rw[e3]at hl1;cases hl1;rw[e1]at hrep;exact⟨GC hm (hle _ _ e2),Ib hm (hle _ _ e2) hrep⟩
           ·rw[e2]at hl1;rw[e1]at hrep;generalize hdd:d=d0 at hl1 ⊢
            cases hl1 with
            | refl=>exact absurd (hdd.symm▸rfl:d = .nl) (yf hl d (Wu p1))
            | nl t'=>obtain⟨p,rfl⟩:=pw (P:=P) (.c hrep);exact⟨rfl,p,rfl⟩
           ·rw[e1]at hrep;have hrep:=c9 hrep;exact F7 e2 hl1 hrep
       obtain⟨k1,k2⟩:=hR;intro next Q hn;unfold Oper.wp;rw[hrun];refine hn _ _ _ (.c (.Nn (n:=(len,os.map (Vk g))) (bv _ _ _) (MN _) hml')) k1 k2 ?_;intro x hu hx;have hx:x<c∨c+1≤x:=hx
       have:x≠c:=by omega
       rw[cj _ _ _ this];exact hd x hu
 ·exact af
end
set_option linter.unusedVariables false
set_option linter.unusedSimpArgs false
section
variable{F:Fam}{P:Program}{T:TypeId→Option (TI F)}{o:Oper}{vals:List (Dat F)}{mm:Nat→Option (Mg F)}{c:Nat}{R:Type}{K:SS F→Option R}{own:Ow}{g g':G}{w w':World}{m m':Nat→Option (Mg F)}{u:Nat→Bool}{a:Act}
theorem Aw{α : Type}{sz:Nat}:∀{es:List (List α)} (_:∀e∈es,e.length=sz) {i:Nat} {cs ds:List α} (_:es[i]? = some cs) (_:ds.length=cs.length),
  (es.set i ds).flatten=es.flatten.take (i*sz)++ds++es.flatten.drop (i*sz+sz)
 | [],_,i,_,_,h,_=>by simp at h
 | x::es,hsz,0,cs,ds,h,hl=>by
  simp only[PW,NJ]at h;subst h
  have hx:x.length=sz:=hsz x (by simp)
  have h2:(x++es.flatten).drop sz=es.flatten:=by rw[← hx,List.drop_left]
  simp[h2]
 | x::es,hsz,i+1,cs,ds,h,hl=>by
  simp only[QdK]at h
  have hx:x.length=sz:=hsz x (by simp)
  have ih:=Aw (es:=es) (λe he=>hsz e (by simp[he])) h hl
  have e1:(i+1)*sz=x.length+i*sz:=by rw[TF,hx];omega
  simp only[QgP,YB,ih]
  rw[e1,show x.length+i*sz+sz=x.length+(i*sz+sz)by omega,List.take_length_add_append,List.drop_length_add_append]
  simp only[P5]
theorem sW{t:Ty}{l:List (ET F t)}{i:Nat}{x y:ET F t}(h:l[i]? = some x):cells F t (l.set i y)=(cells F t l).take (i*LY F t)++LZ F t y++(cells F t l).drop (i*LY F t+LY F t):=by
 unfold cells;rw[List.map_set]
 refine Aw qr (cs:=LZ F t x) (by rw[Rf,h];rfl) (by rw[bo,bo])
theorem rY{Li:Nat→Prop}{cs ds:List (ND F)}{cur vs:List Value}{q:Nat}(hq:q+ds.length≤cs.length)(hc:cs.length≤cur.length)
  (hr:∀(k:Nat)(d:ND F)(x:Value),cs[k]? = some d→cur[k]? = some x→L_ w Li d x) (hl:vs.length=ds.length)
  (hv:∀(k:Nat)(d:ND F)(x:Value),ds[k]? = some d→vs[k]? = some x→L_ w Li d x) :
  ∀(k:Nat)(d:ND F)(x:Value),(cs.take q++ds++cs.drop (q+ds.length))[k]? = some d→(cur.take q++vs++cur.drop (q+vs.length))[k]? = some x→L_ w Li d x:=by
 intro k d x h1 h2
 have e1:(cs.take q).length=q:=by simp;omega
 have e2:(cur.take q).length=q:=by simp;omega
 rw[P5]at h1 h2;by_cases hk:k<q
 ·rw[Rv (by omega),RG,if_pos hk]at h1
  rw[Rv (by omega),RG,if_pos hk]at h2
  exact hr k d x h1 h2
 ·rw[RF (by omega),e1]at h1
  rw[RF (by omega),e2]at h2
  by_cases hk2:k - q<ds.length
  ·rw[Rv hk2]at h1
   rw[Rv (by omega)]at h2
   exact hv _ d x h1 h2
  ·rw[RF (by omega),SY]at h1
   rw[RF (by omega),SY]at h2
   rw[hl]at h2;exact hr _ d x h1 h2
theorem pP{t:Ty}{l:List (ET F t)}{i k:Nat}{x y:ET F t}{d:ND F}(h:l[i]? = some x)(hk:(cells F t (l.set i y))[k]? = some d) :
  (∃j,k=i*LY F t+j∧(LZ F t y)[j]? = some d)∨((k<i*LY F t∨i*LY F t+LY F t≤k)∧(cells F t l)[k]? = some d):=by
 have hi:i<l.length:=(K_.1 h).1;have hcl:(cells F t l).length=l.length*LY F t:=aH
 have hbig:i*LY F t+LY F t≤(cells F t l).length:=by rw[hcl];have:(i+1)*LY F t≤l.length*LY F t:=Rp _ hi;rw[TF]at this;omega
 have e1:((cells F t l).take (i*LY F t)).length=i*LY F t:=by rw[Oy];omega
 rw[sW h,P5]at hk;by_cases h1:k<i*LY F t
 ·rw[Rv (by omega),RG,if_pos h1]at hk
  exact .inr ⟨.inl h1,hk⟩
 ·rw[RF (by omega),e1]at hk
  by_cases h2:k - i*LY F t<LY F t
  ·rw[Rv (by rw[bo];exact h2)]at hk
   exact .inl ⟨k - i*LY F t,by omega,hk⟩
  ·rw[RF (by rw[bo];omega),bo,SY]at hk
   refine .inr ⟨.inr (by omega),?_⟩
   rw[← hk]
   congr 1
   omega
theorem xr{b:Nat}:∀{ns:NS},(MO ns).Nodup→∀{k k':Nat}{c c':Nat×Nat},ns[k]? = some (some (b,c))→ns[k']? = some (some (b,c'))→k=k'
 | [],_,k,k',c,c',h,_=>by simp at h
 | none::ns,hn,k,k',c,c',h,h'=>by
  cases k with
  | zero=>simp at h
  | succ k=>
   cases k' with
   | zero=>simp at h'
   | succ k'=>exact congrArg (· + 1) (xr (ns:=ns) hn (k:=k) (k':=k') (c:=c) (c':=c') (by simpa using h) (by simpa using h'))
 | some (b0,c0)::ns,hn,k,k',c,c',h,h'=>by
  simp only[MO,Ug]at hn
  cases k with
  | zero=>
   cases k' with
   | zero=>rfl
   | succ k'=>
    simp only[PW,NJ,Prod.mk.injEq]at h
    exact absurd (jI (ns:=ns) (by simpa using h')) (h.1▸hn.1)
  | succ k=>
   cases k' with
   | zero=>
    simp only[PW,NJ,Prod.mk.injEq]at h'
    exact absurd (jI (ns:=ns) (by simpa using h)) (h'.1▸hn.1)
   | succ k'=>exact congrArg (· + 1) (xr (ns:=ns) hn.2 (k:=k) (k':=k') (c:=c) (c':=c') (by simpa using h) (by simpa using h'))
theorem vl{Li:Nat→Prop}{d d':ND F}{x:Value}{pl:Option (Nat×Nat×Nat)}(hl:U5 d d')(h:Ov w Li d x pl):d'=d:=by
 cases hl with
 | refl=>rfl
 | nl t=>exact absurd h.2.1 (by simp[TA.flat])
theorem DM{Li:Nat→Prop}{t':Ty}{l:List (ET F t')}{i off:Nat}{el nw:ET F t'}{ds:List (ND F)}{cur vs:List Value}(hel:l[i]? = some el)(h3:off+ds.length≤LY F t')(hnw:O4 F t' ((LZ F t' el).take off++ds++(LZ F t' el).drop (off+ds.length))=some nw)
  (hcur:(cells F t' l).length≤cur.length) (k6:∀(k:Nat)(d:ND F)(x:Value),(cells F t' l)[k]? = some d→cur[k]? = some x→L_ w Li d x) (hl:vs.length=ds.length)
  (hv:∀(k:Nat)(d:ND F)(x:Value),ds[k]? = some d→vs[k]? = some x→L_ w Li d x) :
  ∀(k:Nat)(d:ND F)(x:Value),(cells F t' (l.set i nw))[k]? = some d→(cur.take (i*LY F t'+off)++vs++cur.drop (i*LY F t'+off+ds.length))[k]? = some x→L_ w Li d x:=by
 intro k d x p q;have hile:i<l.length:=(K_.1 hel).1;have hcl:(cells F t' l).length=l.length*LY F t':=aH
 have hbig:i*LY F t'+LY F t'≤(cells F t' l).length:=by rw[hcl];have:(i+1)*LY F t'≤l.length*LY F t':=Rp _ hile;rw[TF]at this;omega
 rw[sW hel]at p;have hels:(LZ F t' el).length=LY F t':=bo F t' el
 have hov:=rY (w:=w) (Li:=Li) (cs:=cells F t' l) (ds:=ds) (cur:=cur) (vs:=vs) (q:=i*LY F t'+off) (by omega) hcur k6 hl hv
 rw[hl]at hov;have TM:=cA F hnw
 have hin:(cells F t' l).take (i*LY F t')++(LZ F t' el).take off=(cells F t' l).take (i*LY F t'+off):=by
  rw[List.take_add]
  congr 1
  apply QeM;intro j;rw[RG,RG];split
  ·rw[SY]
   have hj:j<(LZ F t' el).length:=by omega
   rw[K9 hj,a_ hel (K9 hj)]
  ·rfl
 have hout:(LZ F t' el).drop (off+ds.length)++(cells F t' l).drop (i*LY F t'+LY F t')=(cells F t' l).drop (i*LY F t'+off+ds.length):=by
  apply QeM;intro j;rw[SY];by_cases hj:off+ds.length+j<LY F t'
  ·rw[Rv (by rw[Ro,hels];omega),SY]
   have hj2:off+ds.length+j<(LZ F t' el).length:=by omega
   rw[K9 hj2];have:=a_ hel (K9 hj2);rw[← this]
   congr 1
   omega
  ·rw[RF (by rw[Ro,hels];omega),SY,Ro,hels]
   congr 1
   omega
 have Zr:Tk ((cells F t' l).take (i*LY F t'+off)++ds++(cells F t' l).drop (i*LY F t'+off+ds.length)) ((cells F t' l).take (i*LY F t')++LZ F t' nw++(cells F t' l).drop (i*LY F t'+LY F t')):=by
  rw[← hin,← hout]
  have hrefl:∀l:List (ND F),Tk l l:=λl=>⟨rfl,λk c d h1 h2=>by rw[h1]at h2;cases h2;exact .refl _⟩
  have:=nT (nT (hrefl ((cells F t' l).take (i*LY F t'))) TM) (hrefl ((cells F t' l).drop (i*LY F t'+LY F t')));simpa[P5]using this
 exact uE Zr hov k d x p q
theorem tP:∀{cs:List (MJ F)} {ds:List (ND F)} {ids:List Nat},cF mm cs=some (ds,ids)→cs.all MJ.RO=true
 | [],ds,ids,_=>rfl
 | y::cs,ds,ids,h=>by
  obtain⟨d,i',ds',j,q1,q2,_,_⟩:=mQ h;simp only[Z4,Np];refine⟨?_,tP q2⟩
  cases y<;>first | rfl | simp[Sl]at q1
theorem DA(hT:Mc P T){t:TypeId}{x y:Operand}(ho:o.op = .store t x y):Rule P o vals mm c K (AQ T vals mm K t):=by
 unfold AQ;split
 ·exact af
 ·rename_i ti hti
  have key:∀{w:World}{a:Act}{b q:Nat}{cur:List Value} {e:TypeId} {vs:List Value},a.eval x = .pointer (some ⟨b,q,none⟩)→w.heap[b]? = some (.cells ⟨cur⟩ e (0,0))→(a.eval y).cells.toList=vs→vs.length=ti.size→
    (∀v∈vs,v.oneCell'=true)→q+vs.length≤cur.length→(execOp a.eval o).run P w = .ok .skip (w.setRow b ⟨cur.take q++vs++cur.drop (q+vs.length)⟩):=by
   intro w a b q cur e vs e1 hb e2 hl h1 hle;have hsz:=b_ hT hti w
   have hs:=run_storeCells_at (P:=P) b q e vs 0 ⟨cur⟩ w hb (by simpa using hle) h1
   simp only[Vm]at hs
   have hsize:(a.eval y).cells.size=ti.size:=by rw[← Wt,e2,hl]
   simp only[execOp,ho,e1,Instr.storeAt,Instr.sureAddr,OA,PD,OM,storeVar,hsz,hsize,ne_eq,not_true_eq_false,if_false,e2,hs]
  split
  ·rename_i id off v;split
   ·rename_i cs Pj;dsimp only;refine aA (λhc=>?_) (λ_=>af);simp only[Np,decide_eq_true_eq,R7]at hc;obtain⟨⟨⟨h1,h2⟩,h3⟩,h4⟩:=hc;have h3:=U4 h3;intro r hr;refine⟨_,hr,?_⟩;intro own g w a m u hle hm hd hall hfr hrep;rw[ho]at hrep;simp only[Op.operands,M9,Oi]at hrep;obtain⟨hx,hy⟩:=M5 hrep;obtain⟨b,cn,hi,e1⟩:=bW hx;obtain⟨b',Vu,arr,tt,k1,k2,k3,k4⟩:=hm.ok id _ (hle _ _ Pj);rw[k1]at hi;cases hi;obtain⟨r1,r2,r3⟩:=mz hy h2 h4
    have hrun:=key (vs:=(a.eval y).cells.toList) e1 k2 rfl (by rw[r1,h1]) r3 (by rw[r1,k3];exact h3)
    have hseg:=BM (off:=off) k3 k4 r1 r2;rw[r1]at hseg hrun
    obtain⟨w1,w2⟩:=uf (B':=.box (cs.take off++v.cells++cs.drop (off+v.cells.length))) (arr:=arr.take off++(a.eval y).cells.toList++arr.drop (off+v.cells.length)) hm (hle _ _ Pj) rfl k1 k2 (by intro hh hle';exact⟨b,Vu,_,tt,k1,hh,hseg.1,λk c x p q=>(hseg.2 k c x p q).le hle'⟩)
    intro next Q hn;unfold Oper.wp;rw[hrun];exact hn undef _ g (.c .any) w1 w2 (λid hu _=>hd id hu)
   ·exact af
  ·rename_i id sz i off v;split
   ·rename_i t' l ds fz hrow hds;refine aA (λhc=>?_) (λ_=>af);simp only[Np,decide_eq_true_eq,beq_iff_eq,R7,U3]at hc;obtain⟨⟨⟨⟨⟨h1,h2⟩,h3⟩,h4⟩,h5⟩,_⟩:=hc;have h3:=U4 h3;subst h2;refine aE λel hel=>?_;dsimp only;split
    ·rename_i nw hnw;intro r hr;refine⟨_,hr,?_⟩;intro own g w a m u hle hm hd hall hfr hrep;have hf:R4 mm fz:=R4.Po (oy hds);refine z_ (res:={ val:=.c .any,mw:=[(id,some (.row t' (l.set i nw)))] }) hle hf ?_;have hm1:=mU hm hle hf;rw[ho]at hrep;simp only[Op.operands,M9,Oi]at hrep;obtain⟨hx,hy⟩:=M5 hrep;have hlen:v.cells.length=ds.length:=(iz hds).symm
     have hna:v.cells.all MJ.RO=true:=by
      rw[Td];intro x hx'
      have gen:∀{cs:List (MJ F)} {ds:List (ND F)} {ids:List Nat},cF mm cs=some (ds,ids)→x∈cs→x.RO=true:=by
       intro cs
       induction cs with
       | nil=>intro ds ids _ h;simp at h
       | cons y cs ih=>
        intro ds ids h hmem;obtain⟨d,i',ds',j,q1,q2,_,_⟩:=mQ h;rcases Nz.1 hmem with rfl | hmem
        ·cases x<;>first | rfl | simp[Sl]at q1
        ·exact ih q2 hmem
      exact gen hds hx'
     obtain⟨b,cn,hi,e1⟩:=ja hx
     have akx:Ml m (Wo mm fz) id=some (.row t' l):=by
      rw[kV,if_neg (by intro hid;rw[aN.2 hid]at h5;cases h5)]
      exact hle _ _ hrow
     rcases hm.ok id _ (hle _ _ hrow)with⟨k1,k2⟩ | ⟨b',cap,cur,e,k1,k2,k3,k4,k5,k6⟩
     ·rw[k1]at hi;cases hi
     ·rw[k1]at hi;cases hi
      obtain⟨r1,r2,r3⟩:=mz hy hna (by omega)
      have hile:i<l.length:=(K_.1 hel).1;have hcl:(cells F t' l).length=l.length*LY F t':=aH
      have hbig:i*LY F t'+LY F t'≤(cells F t' l).length:=by rw[hcl];have:(i+1)*LY F t'≤l.length*LY F t':=Rp _ hile;rw[TF]at this;omega
      have hcur:(cells F t' l).length≤cur.length:=by rw[hcl,k5];exact Rp _ k3
      have hrun:=key (vs:=(a.eval y).cells.toList) e1 k2 rfl (by rw[r1,hlen,h1]) r3 (by rw[r1,hlen];omega)
      rw[r1,hlen]at hrun
      obtain⟨w1,w2⟩:=uf (g:=g.Rm fz) (B':=.row t' (l.set i nw)) (arr:=cur.take (i*LY F t'+off)++(a.eval y).cells.toList++cur.drop (i*LY F t'+off+ds.length)) hm1 akx rfl k1 k2 (by
       intro hh hle'
       refine .inr ⟨b,cap,_,e,by rw[Xx];exact k1,hh,by simpa using k3,k4,?_,?_⟩
       ·simp only[La,Oy,Ro,r1,hlen];omega
       ·intro k d x p q;refine L_.le hle' ?_;rw[sW hel]at p;have hels:(LZ F t' el).length=LY F t':=bo F t' el;have hle2:=pE g w fz
        have hov:=rY (w:=w) (Li:=(g.Rm fz).Li) (cs:=cells F t' l) (ds:=ds) (cur:=cur) (vs:=(a.eval y).cells.toList) (q:=i*LY F t'+off) (by omega) hcur (λk d x p q=>(k6 k d x p q).le hle2) (by rw[r1,hlen])
         (jJ hm hle hds hle2 (λid hid b hb=>.inr ⟨id,hid,hb⟩) _ r2)
        rw[r1,hlen]at hov;have TM:=cA F hnw
        have hin:(cells F t' l).take (i*LY F t')++(LZ F t' el).take off=(cells F t' l).take (i*LY F t'+off):=by
         rw[List.take_add]
         congr 1
         apply QeM;intro j;rw[RG,RG];split
         ·rw[SY]
          have hj:j<(LZ F t' el).length:=by omega
          rw[K9 hj,a_ hel (K9 hj)]
         ·rfl
        have hout:(LZ F t' el).drop (off+ds.length)++(cells F t' l).drop (i*LY F t'+LY F t')=(cells F t' l).drop (i*LY F t'+off+ds.length):=by
         apply QeM;intro j;rw[SY];by_cases hj:off+ds.length+j<LY F t'
         ·rw[Rv (by rw[Ro,hels];omega),SY]
          have hj2:off+ds.length+j<(LZ F t' el).length:=by omega
          rw[K9 hj2];have:=a_ hel (K9 hj2);rw[← this]
          congr 1
          omega
         ·rw[RF (by rw[Ro,hels];omega),SY,Ro,hels]
          congr 1
          omega
        have Zr:Tk ((cells F t' l).take (i*LY F t'+off)++ds++(cells F t' l).drop (i*LY F t'+off+ds.length)) ((cells F t' l).take (i*LY F t')++LZ F t' nw++(cells F t' l).drop (i*LY F t'+LY F t')):=by
         rw[← hin,← hout]
         have hrefl:∀l:List (ND F),Tk l l:=λl=>⟨rfl,λk c d h1 h2=>by rw[h1]at h2;cases h2;exact .refl _⟩
         have:=nT (nT (hrefl ((cells F t' l).take (i*LY F t'))) TM) (hrefl ((cells F t' l).drop (i*LY F t'+LY F t')));simpa[P5]using this
        exact uE Zr hov k d x p q)
      intro next Q hn;unfold Oper.wp;rw[hrun];exact hn undef _ (g.Rm fz) (.c .any) w1 w2 (λid hu _=>hd id hu)
    ·exact af
   ·exact af
  ·rename_i id sz i off sz' j off' v;split
   ·rename_i t' l ds fz hrow hds;refine aA (λhc=>?_) (λ_=>af);simp only[Np,decide_eq_true_eq,beq_iff_eq,R7,QgE]at hc;obtain⟨⟨⟨h1,rfl⟩,h4⟩,rfl⟩:=hc;refine aE λel hel=>?_;split
    ·rename_i t2 l2 hd;refine aA (λhc=>?_) (λ_=>af);simp only[Np,beq_iff_eq]at hc;obtain⟨rfl,h3⟩:=hc;have h3:=U4 h3;refine aE λel2 afG=>?_;split
     ·rename_i z hz;split
      ·rename_i nw hnw;intro r hr;refine⟨_,hr,?_⟩;intro own g w a m u hle hm hd' hall hfr hrep;rw[ho]at hrep;simp only[Op.operands,M9,Oi]at hrep;obtain⟨hx,hy⟩:=M5 hrep;have hlen:v.cells.length=ds.length:=(iz hds).symm;obtain⟨b,c',nn,b',c2,hid,hk,e1⟩:=CD hx;obtain⟨pl,k1,k2⟩:=hm.ok id _ (hle _ _ hrow);rw[hid]at k1;cases k1;obtain⟨t2',l2',hd2,hO⟩:=P8.sub k2 hk;have hc0:=a_ hel hd;rw[hc0]at hd2;cases hd2;obtain⟨q0,q2,q3,cur,e,q4,q5,q6⟩:=hO;have hb':b'∈MO nn.2:=jI hk;have hblk:g.blk id b':=⟨b,(c',nn),hid,Uh _ hb'⟩
       obtain⟨r1,r2,r3⟩:=mz hy (tP hds) (by omega)
       have hjle:j<l2.length:=(K_.1 afG).1;have hcl:(cells F t2 l2).length=l2.length*LY F t2:=aH
       have hbig:j*LY F t2+LY F t2≤(cells F t2 l2).length:=by rw[hcl];have:(j+1)*LY F t2≤l2.length*LY F t2:=Rp _ hjle;rw[TF]at this;omega
       have hcur:(cells F t2 l2).length≤cur.length:=by rw[hcl,q5];exact Rp _ q2
       have hrun:=key (vs:=(a.eval y).cells.toList) e1 q4 rfl (by rw[r1,hlen,h1]) r3 (by rw[r1,hlen];omega)
       rw[r1,hlen]at hrun
       have hv:=jJ hm hle hds (Le.refl g w) (by simp) _ r2
       have hnew:=DM (w:=w) (Li:=g.Li) (vs:=(a.eval y).cells.toList) afG h3 hz hcur q6 (by rw[r1,hlen]) hv
       obtain⟨s1,s2,s3,s4,s5,apH,e0,s6,s7,s8⟩:=k2;have s5':=Ug.1 s5;have hbne:b≠b':=λe=>s5'.1 (e▸hb')
       obtain⟨w1,w2⟩:=Am (B':=.Nc t' (l.set i nw)) (arr:=cur.take (j*LY F t2+off')++(a.eval y).cells.toList++cur.drop (j*LY F t2+off'+ds.length)) hm (hle _ _ hrow) rfl hblk q4 (by
        intro hh hle';have hsame:∀b2,b2≠b'→(w.setRow b' ⟨cur.take (j*LY F t2+off')++(a.eval y).cells.toList++cur.drop (j*LY F t2+off'+ds.length)⟩).heap[b2]? = w.heap[b2]?:=λb2 h=>setRow_other w b' b2 _ h
        refine⟨_,hid,by rw[s1,Xx],by simpa using s2,s3,by rw[s4,aH,aH,Xx],s5,apH,e0,by rw[hsame b hbne];exact s6,s7,?_⟩
        intro k d x pl p1 p2 p3;have hkn:k<nn.2.length:=(K_.1 p3).1;have hold:∀{d0:ND F},(cells F t' l)[k]? = some d0→Ov w g.Li d0 x pl:=λh0=>s8 k _ x pl h0 p2 p3
        have keep:∀{d0:ND F},k≠i*LY F t'+off→Ov w g.Li d0 x pl→Ov (w.setRow b' ⟨cur.take (j*LY F t2+off')++(a.eval y).cells.toList++cur.drop (j*LY F t2+off'+ds.length)⟩) g.Li d0 x pl:=by intro d0 hne h;refine h.O_ (λ_ h=>h) hle'.heap ?_;rintro b2 c3 rfl;refine hsame b2 ?_;rintro rfl;exact hne (xr s5'.2 p3 hk)
        rcases pP hel p1 with⟨jj,rfl,hjj⟩ | ⟨hout,hcell⟩
        ·have hlt:jj<LY F t':=by rw[← bo F t' nw];exact(K_.1 hjj).1
         have hj0:jj<(LZ F t' el).length:=by rw[bo];exact hlt
         have TM:=(cA F hnw).2 jj _ d (K9 (by simpa using hj0)) hjj
         by_cases hjo:jj=off
         ·subst hjo;rw[List.getElem_set_self]at TM;cases TM;rw[hk]at p3;cases p3;have h9:=(hold hc0).2
          refine⟨⟨?_,by simpa using q2,q3,_,e,hh,?_,?_⟩,h9⟩
          ·simpa using q0
          ·simp only[La,Oy,Ro,r1,hlen];omega
          ·intro k d x p q;exact(hnew k d x p q).le hle'
         ·rw[List.getElem_set_ne (λe=>hjo e.symm)]at TM;have h9:=hold (a_ hel (K9 hj0));rw[vl TM h9]
          exact keep (by omega) h9
        ·refine keep ?_ (hold hcell)
         have:off<LY F t':=by rw[← bo F t' el];exact(K_.1 hd).1
         omega)
       intro next Q hn;unfold Oper.wp;rw[hrun];exact hn undef _ g (.c .any) w1 w2 (λid hu _=>hd' id hu)
      ·exact af
     ·exact af
    ·exact af
   ·exact af
  ·exact af
def V6(g:G)(w:World)(t:Ty)(v:Value)(ys:List (ET F t)):Prop:=
 ∃(q:Option Addr)(cap:Nat)(news:List Value),v = .slice q ys.length cap∧news.length=ys.length*LY F t∧(q=none→ys = []∧cap=0)∧(∀b,q=some b→∀(j:Nat)(x:Value),news[j]? = some x→w.cell? (b.add j)=some x)∧
  ∀(k:Nat)(d:ND F)(x:Value),(cells F t ys)[k]? = some d→news[k]? = some x→L_ w g.Li d x
theorem xc{b q n:Nat}{ds:List (ND F)}(hl:ds.length=n)(h:∀k d,ds[k]? = some d→∃x,w.cell? ⟨b,q+k,none⟩=some x∧L_ w g.Li d x) :
  ∃news:List Value,news.length=n∧(∀(j:Nat)(x:Value),news[j]? = some x→w.cell? ((⟨b,q,none⟩:Addr).add j)=some x)∧∀(k:Nat)(d:ND F)(x:Value),ds[k]? = some d→news[k]? = some x→L_ w g.Li d x:=by
 refine⟨(List.range n).map λk=>(w.cell? ⟨b,q+k,none⟩).getD undef,by simp,?_,?_⟩
 ·intro j x hx
  have hj:j<n:=by have:=(K_.1 hx).1;simpa using this
  rw[Rf,QgJ hj]at hx;simp only[Xy,NJ]at hx
  obtain⟨y,hy,_⟩:=h j _ (K9 (by omega))
  rw[hy]at hx;rw[Addr.add_lit,hy];simpa using hx
 ·intro k d x h1 h2
  have hk:k<n:=by have:=(K_.1 h1).1;omega
  rw[Rf,QgJ hk]at h2;simp only[Xy,NJ]at h2;obtain⟨y,hy,hr⟩:=h k d h1;rw[hy]at h2;simp only[Ws]at h2;rw[← h2];exact hr
theorem uz{t:Ty}(p:Option Addr):V6 (F:=F) g w t (.slice p 0 0) []:=⟨p,0,[],rfl,by simp,λ_=>⟨rfl,rfl⟩,λ_ _ _ _ h=>by simp at h,λ_ _ _ h=>by simp[cells]at h⟩
theorem tW{t:Ty}{l:List (ET F t)}{v:Value}(h:L_ w g.Li (.sl t l) v):V6 g w t v l:=by
 rcases tg h with⟨rfl,p,rfl⟩ | ⟨b,q,cap,fn,hb,hcap,hmx,rfl,hc,hr⟩
 ·exact uz p
 ·obtain⟨news,n1,n2,n3⟩:=xc (g:=g) (w:=w) (b:=b) (q:=q) (ds:=cells F t l) aH (λk d hk=>⟨fn k,hc k d hk,hr k d hk⟩)
  exact⟨_,cap,news,rfl,n1,(λh=>by cases h),(λb' hb'=>by cases hb';exact n2),n3⟩
theorem ww(hm:LQ own g w m)(hle:P6 mm m){tt:Ty}{d:Dat F}{v:Value}{ys:List (ET F tt)}(h:tX mm tt d=some ys)(hr:Ma P g w d v):V6 g w tt v ys:=by
 unfold tX at h;split at h
 ·cases h;obtain⟨p,rfl⟩:=pw hr
  exact uz p
 ·split at h
  ·rename_i hk;subst hk;cases h;exact tW (tI hr)
  ·cases h
 ·rename_i id;split at h
  ·rename_i t' l hrow;split at h
   ·rename_i hk;subst hk;cases h;rcases bu (bh hr)with⟨hi,p,rfl⟩ | ⟨b,cap,n,hi,h1,h2,rfl⟩
    ·rcases hm.ok id _ (hle _ _ hrow)with⟨_,rfl⟩ | ⟨_,_,_,_,k1,_⟩
     ·exact uz p
     ·rw[hi]at k1;cases k1
    ·obtain⟨rfl,h4,h7⟩:=cV hm (hle _ _ hrow) hi
     obtain⟨news,n1,n2,n3⟩:=xc (g:=g) (w:=w) (b:=b) (q:=0) (ds:=cells F t' l) aH (λk d hk=>by rw[OW];exact h7 k d hk)
     exact⟨_,cap,news,rfl,n1,(λh=>by cases h),(λb' hb'=>by cases hb';exact n2),n3⟩
   ·cases h
  ·rename_i t' l hrow;split at h
   ·rename_i hk;subst hk;cases h;exact tW (qW hm (hle _ _ hrow) (bh hr))
   ·cases h
  ·cases h
 ·rename_i id sz off n;split at h
  ·rename_i t' l hrow;split at h
   ·rename_i hk;subst hk;split at h
    ·rename_i hsz;cases h;subst hsz;rcases oT (bh hr)with⟨hi,rfl,rfl,p,rfl⟩ | ⟨b,cap,len,q,hi,h1,h2,h3,h4,rfl⟩
     ·have:Fx.sub l 0 0 = []:=by simp[Fx.sub]
      rw[this];exact uz p
     ·obtain⟨rfl,h5,h7⟩:=cV hm (hle _ _ hrow) hi
      have hlen:(Fx.sub l off n).length=n:=by simp only[Fx.sub,Oy,Ro];omega
      obtain⟨news,n1,n2,n3⟩:=xc (g:=g) (w:=w) (b:=b) (q:=q) (ds:=cells F t' (Fx.sub l off n)) aH (λk d hk=>by
       rcases h3 with⟨h3,_⟩ | h3
       ·have h0:n=0:=by omega
        subst h0;simp[Fx.sub,cells]at hk
       ·subst h3;exact h7 _ _ (lK hk))
      exact⟨_,_,news,by rw[hlen],n1,(λh=>by cases h),(λb' hb'=>by cases hb';exact n2),n3⟩
    ·cases h
   ·cases h
  ·rename_i t' l hrow;split at h
   ·rename_i hk;subst hk;split at h
    ·rename_i hsz;cases h;exact tW (y9 hm (hle _ _ hrow) hsz (bh hr))
    ·cases h
   ·cases h
  ·cases h
 ·cases h
end
set_option linter.unusedVariables false
set_option linter.unusedSimpArgs false
section
variable{F:Fam}{P:Program}{T:TypeId→Option (TI F)}{o:Oper}{vals:List (Dat F)}{mm:Nat→Option (Mg F)}{c:Nat}{R:Type}{K:SS F→Option R}{own:Ow}{g g':G}{w w':World}{m m':Nat→Option (Mg F)}{u:Nat→Bool}{a:Act}
theorem tc{α : Type}{b:Nat}{l m r:List α}(h:app b l m=some r):r=l++m∧r.length≤maxLen∧r.length*b≤140737488355328:=by
 unfold app at h;split at h
 ·rename_i hc;cases h;exact⟨rfl,hc.1,hc.2⟩
 ·cases h
theorem l9(t ty e:TypeId)(i:TypeInfo)(ht:P.underlying t=some (.slice e))(hi:P.info? e=some i)(base:Option Addr)(n c:Nat)(hn:n≤c)(q:Option Addr)(c':Nat) :
  (Builtin.append_ #[t,t] ty #[.slice base n c,.slice q 0 c']).run P w = .ok (.slice base n c) w:=by
 cases base<;>cases q<;>simp[Builtin.append_,run_underlying ht,sizeOf,typeInfo,hi,Builtin.lenOf,hn,Builtin.firstCells,storeCells,loadCells,loadCellsFrom]
theorem qi(t ty e e':TypeId)(i:TypeInfo)(ht:P.underlying t=some (.slice e))(hi:P.info? e=some i)
  (b sLen sCap:Nat) (cur:Array Value) (hg:w.heap[b]? = some (.cells cur e' (0,0)))
  (p:Addr) (m c:Nat) (news:List Value) (hl:news.length=m*i.size) (hnews:∀j u,news[j]? = some u→w.cell? (p.add j)=some u) (h1:∀u∈news,u.oneCell'=true)
  (hroom:sLen+m≤sCap) (hfit:sLen*i.size+news.length≤cur.size) :
  (Builtin.append_ #[t,t] ty #[.slice (some ⟨b,0,none⟩) sLen sCap,.slice (some p) m c]).run P w =
   .ok (.slice (some ⟨b,0,none⟩) (sLen+m) sCap) (w.setRow b (cur.toList.take (sLen*i.size)++news++cur.toList.drop (sLen*i.size+news.length)).toArray):=by
 have hf:=run_firstCells_some (P:=P) w i.size m p m c news hl hnews
 have hst:=run_storeCells_at P b (sLen*i.size) e' news 0 cur w hg (by simpa using hfit) h1
 simp only[Vm]at hst;simp[Builtin.append_,run_underlying ht,sizeOf,typeInfo,hi,Builtin.lenOf,hroom,hf,Addr.add_lit,hst]
theorem qR{Li:Nat→Prop}{xs ys:List (ND F)}{cur news rest:List Value}(hc:xs.length≤cur.length)(hx:∀(k:Nat)(d:ND F)(x:Value),xs[k]? = some d→cur[k]? = some x→L_ w Li d x)
  (hn:news.length=ys.length) (hy:∀(k:Nat)(d:ND F)(x:Value),ys[k]? = some d→news[k]? = some x→L_ w Li d x) :
  ∀(k:Nat)(d:ND F)(x:Value),(xs++ys)[k]? = some d→(cur.take xs.length++news++rest)[k]? = some x→L_ w Li d x:=by
 intro k d x h1 h2
 have e:(cur.take xs.length).length=xs.length:=by rw[Oy];omega
 rw[P5]at h2;by_cases hk:k<xs.length
 ·rw[Rv hk]at h1
  rw[Rv (by omega),RG,if_pos hk]at h2
  exact hx k d x h1 h2
 ·rw[RF (by omega)]at h1
  have hk2:k - xs.length<ys.length:=(K_.1 h1).1
  rw[RF (by omega),e,Rv (by omega)]at h2
  exact hy _ d x h1 h2
theorem kY{t:Ty}{l r:List (ET F t)}:cells F t (l++r)=cells F t l++cells F t r:=by simp[cells]
theorem uT(hT:Mc P T)(hm:LQ own g w m)(hd:∀id,u id=false→g.ids id=none)(hall:∀b,w.heap.size≤b→own.o b)(hfr:u c=false)
  {t e:TypeId} {i te:TI F} (ht:T t=some i) (hde:i.desc = .slice e) (hte:T e=some te) (hz0:0<te.size) {tt:Ty} (hsz:LY F tt=te.size) {x y:Operand}
  (ho:o.op = .call { callee:=.builtin .append,args:=#[x,y],argTypes:=#[t,t] }) {l0 ys r:List (ET F tt)} (hr:app te.bytes l0 ys=some r) (hsrc:V6 g w tt (a.eval y) ys) {rm:List Nat}
  (hdst:(∃p,a.eval x = .slice p 0 0∧l0 = [])∨∃r0 b cap cur e',rm = [r0]∧a.eval x = .slice (some ⟨b,0,none⟩) l0.length cap∧m r0=some (.row tt l0)∧g.ids r0=some (some (b,cap,l0.length,[]))∧w.heap[b]? = some (.cells ⟨cur⟩ e' (0,0))∧l0.length≤cap∧cap≤maxLen∧cur.length=cap*LY F tt∧
   ∀(k:Nat)(d:ND F)(x:Value),(cells F tt l0)[k]? = some d→cur[k]? = some x→L_ w g.Li d x) :
  PY P own m u g w o a c { val:=.c (.Nn c),mw:=rm.map (λr=>(r,none))++[(c,some (.row tt r))],nu:=1 }:=by
 have hu:=hT.und _ _ ht;rw[hde]at hu;obtain⟨j,hj,hs,hb,z,hz,hzs,hzl,hzr⟩:=hT.info e te hte
 have PO:∀{v:Value}{w':World},(Builtin.append_ #[t,t] o.type #[a.eval x,a.eval y]).run P w = .ok v w'→(execOp a.eval o).run P w = .ok (.value v) w':=by intro v w' hr;simp only[execOp,ho,resolve,invoke,builtin,OA,PD,OM,QgD,M9,Oi,hr]
 obtain⟨rfl,v3,v4⟩:=tc hr;have Tt:g.ids c=none:=hd c hfr;have hlen:(l0++ys).length=l0.length+ys.length:=La;obtain⟨q,cap',news,hyv,n1,n0,n2,n3⟩:=hsrc;rw[hsz]at n1
 have hcl0:(cells F tt l0).length=l0.length*te.size:=by rw[aH,hsz]
 have afI:(cells F tt ys).length=ys.length*te.size:=by rw[aH,hsz]
 have fin:∀{v:Value}{w':World}{pl:Pl},(execOp a.eval o).run P w = .ok (.value v) w'→LQ own (g.name c pl) w' (Ml m (rm.map (λr=>(r,none))++[(c,some (.row tt (l0++ys)))]))→
   Stp m g w (g.name c pl) w'→Mh (F:=F) (g.name c pl) w' (.Nn c) v→PY P own m u g w o a c { val:=.c (.Nn c),mw:=rm.map (λr=>(r,none))++[(c,some (.row tt (l0++ys)))],nu:=1 }:=by
  intro v w' pl hr k1 k2 k3;intro next Q hn;unfold Oper.wp;rw[hr];refine hn v w' (g.name c pl) (.c k3) k1 k2 ?_;intro id hu' hx';have hx':id<c∨c+1≤id:=hx'
  have:id≠c:=by omega
  rw[cj _ _ _ this];exact hd id hu'
 have akQ:∀p,l0++ys = []→(execOp a.eval o).run P w = .ok (.value (.slice p 0 0)) w→PY P own m u g w o a c { val:=.c (.Nn c),mw:=rm.map (λr=>(r,none))++[(c,some (.row tt (l0++ys)))],nu:=1 }:=by
  intro p h0 hr;obtain⟨k1,k2⟩:=G7 (rm:=rm) (id:=c) (t:=tt) hm Tt
  exact fin hr (by rw[h0];exact k1) k2 (.PG p (bv _ _ _))
 have asNew:∀(cap:Nat)(arr:List Value),(l0++ys).length≤cap→cap≤maxLen→arr.length=cap*te.size→(∀(k:Nat)(d:ND F)(x:Value),(cells F tt (l0++ys))[k]? = some d→arr[k]? = some x→L_ w g.Li d x)→
   (execOp a.eval o).run P w = .ok (.value (.slice (some ⟨w.heap.size,0,none⟩) (l0++ys).length cap)) (w.drew.alloc (.cells ⟨arr⟩ e))→PY P own m u g w o a c { val:=.c (.Nn c),mw:=rm.map (λr=>(r,none))++[(c,some (.row tt (l0++ys)))],nu:=1 }:=by
  intro cap arr h1 h2 h3 h4 hr
  obtain⟨k1,k2⟩:=made (rm:=rm) (id:=c) (cn:=(cap,(l0++ys).length)) (arr:=arr) (t:=e) (B:=.row tt (l0++ys)) hm Tt (hall _ (MN _)) (w1:=w.drew) rfl rfl rfl rfl (QfU _) (by
   intro g' w' hle hi hh
   refine .inr ⟨w.heap.size,cap,arr,e,hi,hh,h1,h2,by rw[h3,hsz],?_⟩
   intro k d x p q;exact(h4 k d x p q).le hle)
  exact fin hr k1 k2 (.Nn (bv _ _ _) h1 h2)
 have hzc:∀k,(Builtin.zeroCells z.cells k).toList.length=k*te.size:=λk=>by rw[Wt,size_zeroCells,hzs]
 have acu:∀old,(l0++ys).length≤grownCap w (l0++ys).length old e∧grownCap w (l0++ys).length old e≤maxLen:=λold=>⟨grownCap_ge w _ _ _,grownCap_le_maxLen w _ _ _ v3⟩
 have h63:((l0++ys).length:Int)≤9223372036854775807:=by have h:=v3;simp only[maxLen]at h;omega
 rcases hdst with⟨p,hxv,rfl⟩ | ⟨r0,b,cap,cur,e',rfl,hxv,hB0,hi,hbk,hle,hmx,hcl,hcr⟩
 ·simp only[PE]at *;by_cases h0:ys = []
  ·subst h0
   exact akQ p rfl (PO (by rw[hxv,hyv];exact l9 t o.type e j hu hj p 0 0 (MN _) q cap'))
  ·have hpos:0<ys.length:=QgM.2 h0
   cases q with
   | none=>exact absurd (n0 rfl).1 h0
   | some b'=>
    have n2':=n2 b' rfl
    have grown:∀{v:Value}{w':World},(Builtin.append_ #[t,t] o.type #[a.eval x,a.eval y]).run P w = .ok v w'→v = .slice (some ⟨w.heap.size,0,none⟩) ys.length (grownCap w ys.length 0 e)→
      w'=w.drew.alloc (.cells (⟨news++(Builtin.zeroCells z.cells (grownCap w ys.length 0 e - ys.length)).toList⟩:Array Value) e)→PY P own m u g w o a c { val:=.c (.Nn c),mw:=rm.map (λr=>(r,none))++[(c,some (.row tt ys))],nu:=1 }:=by
     intro v w' hr hv hw;subst hv hw;obtain⟨g1,g2⟩:=acu 0;refine asNew (grownCap w ys.length 0 e) (news++(Builtin.zeroCells z.cells (grownCap w ys.length 0 e - ys.length)).toList) g1 g2 ?_ ?_ (PO hr)
     ·rw[La,n1,hzc,← Uk]
      congr 1
      omega
     ·intro k d x p q;have hk:k<(cells F tt ys).length:=(K_.1 p).1
      rw[Rv (by omega)]at q
      exact n3 k d x p q
    cases p with
    | none=>
     have hr:=run_append_nil (P:=P) w t o.type e j z hu hj hz b' ys.length cap' news (by rw[n1,hs]) n2' hpos h63 (by rw[hb];omega)
     refine grown (by rw[hxv,hyv];exact hr) rfl ?_
     congr 2
     apply Array.ext';simp
    | some b0=>
     have hr:=run_append_grow (P:=P) w t o.type e j z hu hj hz b0 0 0 [] (by simp) (by simp) b' ys.length cap' news (by rw[n1,hs]) n2' (by omega) (by simpa using h63)
      (growslice_fits (by omega) (by rw[hb,OW];exact v4))
     simp only[OW]at hr
     refine grown (by rw[hxv,hyv];exact hr) rfl ?_
     congr 2
     apply Array.ext';simp
 ·rw[hsz]at hcl
  have htake:cur.take (cells F tt l0).length=cur.take (l0.length*te.size):=by rw[hcl0]
  have acd:(cells F tt l0).length≤cur.length:=by rw[hcl0,hcl];exact Rp _ hle
  by_cases h0:ys = []
  ·subst h0;simp only[Wq]at *
   have hr:=PO (by rw[hxv,hyv];exact l9 t o.type e j hu hj (some ⟨b,0,none⟩) l0.length cap hle q cap')
   obtain⟨k1,k2⟩:=moved (rm:=r0) (id:=c) (Vu:=(cap,l0.length)) (w':=w) (B:=.row tt l0) hm Tt hB0 rfl hi rfl rfl rfl (MN _) rfl (λ_ _=>rfl) (by
    intro g' hle' hi'
    refine .inr ⟨b,cap,cur,e',hi',hbk,hle,hmx,by rw[hcl,hsz],?_⟩
    intro k d x p q;exact(hcr k d x p q).le hle')
   exact fin hr k1 k2 (.Nn (bv _ _ _) hle hmx)
  ·have hpos:0<ys.length:=QgM.2 h0
   cases q with
   | none=>exact absurd (n0 rfl).1 h0
   | some b'=>
    have n2':=n2 b' rfl;by_cases hroom:l0.length+ys.length≤cap
    ·have hfit:l0.length*j.size+news.length≤(⟨cur⟩:Array Value).size:=by
      rw[hs,n1,← Uk];show _≤cur.length;rw[hcl];exact Rp _ hroom
     have h1:∀u∈news,u.oneCell'=true:=by
      intro x hx;obtain⟨k,hk⟩:=XT hx
      have hlt:k<(cells F tt ys).length:=by have:=(K_.1 hk).1;omega
      exact(n3 k _ x (K9 hlt) hk).oneCell
     have hr:=qi (P:=P) (w:=w) t o.type e e' j hu hj b l0.length cap ⟨cur⟩ hbk b' ys.length cap' news (by rw[n1,hs]) n2' h1 hroom hfit
     rw[hs]at hr
     have hr':=PO (by rw[hxv,hyv];exact hr)
     obtain⟨k1,k2⟩:=moved (rm:=r0) (id:=c) (Vu:=(cap,(l0++ys).length)) (w':=w.setRow b (cur.take (l0.length*te.size)++news++cur.drop (l0.length*te.size+news.length)).toArray) (B:=.row tt (l0++ys)) hm Tt hB0 rfl hi rfl rfl rfl (MN _) (by simp) (λb'' hne=>setRow_other w b b'' _ hne) (by
      intro g' hle' hi'
      refine .inr ⟨b,cap,cur.take (l0.length*te.size)++news++cur.drop (l0.length*te.size+news.length),e',hi',setRow_heap w b _ _ e' _ hbk,by omega,hmx,?_,?_⟩
      ·simp only[La,Oy,Ro,n1];rw[hs,n1,← Uk]at hfit;have akF:(l0.length+ys.length)*te.size≤cur.length:=hfit;rw[Uk]at akF;rw[hsz,← hcl];omega
      ·intro k d x p q;rw[kY]at p;rw[← htake]at q
       exact(qR acd hcr (by rw[n1,afI]) n3 k d x p q).le hle')
     rw[← hlen]at hr'
     exact fin hr' k1 k2 (.Nn (bv _ _ _) (by omega) hmx)
    ·have holds:∀(k:Nat)(v:Value),(cur.take (l0.length*te.size))[k]? = some v→w.cell? ((⟨b,0,none⟩:Addr).add k)=some v:=by
      intro k v hk;rw[RG]at hk;split at hk
      ·rw[Addr.add_lit,OW];simp only[World.cell?,hbk];simpa using hk
      ·cases hk
     have hlo:(cur.take (l0.length*te.size)).length=l0.length*j.size:=by rw[Oy,hs];omega
     have hr:=run_append_grow (P:=P) w t o.type e j z hu hj hz ⟨b,0,none⟩ l0.length cap (cur.take (l0.length*te.size)) hlo holds b' ys.length cap' news (by rw[n1,hs]) n2' (by omega) (by rw[← hlen];exact h63)
      (growslice_fits (by omega) (by rw[hb,← hlen];exact v4))
     rw[← hlen]at hr;obtain⟨g1,g2⟩:=acu cap
     have harr:((cur.take (l0.length*te.size)).toArray++news.toArray++Builtin.zeroCells z.cells (grownCap w (l0++ys).length cap e - (l0++ys).length)) =
       (⟨cur.take (l0.length*te.size)++news++(Builtin.zeroCells z.cells (grownCap w (l0++ys).length cap e - (l0++ys).length)).toList⟩:Array Value):=by
      apply Array.ext';simp
     rw[harr]at hr
     refine asNew (grownCap w (l0++ys).length cap e) (cur.take (l0.length*te.size)++news++(Builtin.zeroCells z.cells (grownCap w (l0++ys).length cap e - (l0++ys).length)).toList) g1 g2 ?_ ?_ (PO (by rw[hxv,hyv];exact hr))
     ·rw[La,La,hlo,n1,hzc,hs,← Uk,← hlen,← Uk]
      congr 1
      omega
     ·intro k d x p q;rw[kY]at p;rw[← htake]at q
      exact qR acd hcr (by rw[n1,afI]) n3 k d x p q
theorem Di(hT:Mc P T){t e:TypeId}{i te:TI F}(ht:T t=some i)(hde:i.desc = .slice e)(hte:T e=some te)(hz0:0<te.size){x y:Value}{ty:TypeId}{n k:Nat}{cur news:List Value}
  (hx:((∃p,x = .slice p 0 0)∧n=0∧cur = [])∨∃b e' cap,x = .slice (some ⟨b,0,none⟩) n cap∧w.heap[b]? = some (.cells ⟨cur⟩ e' (0,0))∧n≤cap∧cap≤maxLen∧cur.length=cap*te.size)
  (hy:((∃p cap,y = .slice p 0 cap)∧k=0∧news = [])∨∃b' cap',y = .slice (some b') k cap'∧0<k∧news.length=k*te.size∧(∀(j:Nat)(u:Value),news[j]? = some u→w.cell? (b'.add j)=some u)∧∀u∈news,u.oneCell'=true)
  (hlen:n+k≤maxLen) (hby:(n+k)*te.bytes≤140737488355328) :
  ∃v w',(Builtin.append_ #[t,t] ty #[x,y]).run P w = .ok v w'∧w'.os=w.os∧w'.tape=w.tape∧w'.output=w.output∧w.drawn≤w'.drawn∧
   ((n+k=0∧(∃p,v = .slice p 0 0)∧(∃p,x = .slice p 0 0)∧w'=w)∨
    (∃b e' cap arr,x = .slice (some ⟨b,0,none⟩) n cap∧v = .slice (some ⟨b,0,none⟩) (n+k) cap∧w'.heap[b]? = some (.cells ⟨arr⟩ e' (0,0))∧(∀b2,b2≠b→w'.heap[b2]? = w.heap[b2]?)∧w'.heap.size=w.heap.size∧n+k≤cap∧cap≤maxLen∧arr.length=cap*te.size∧
     arr.take ((n+k)*te.size)=cur.take (n*te.size)++news∧(k=0→w'=w))∨
    (∃e' cap arr,v = .slice (some ⟨w.heap.size,0,none⟩) (n+k) cap∧w'.heap[w.heap.size]? = some (.cells ⟨arr⟩ e' (0,0))∧(∀b2,b2<w.heap.size→w'.heap[b2]? = w.heap[b2]?)∧w'.heap.size=w.heap.size+1∧n+k≤cap∧cap≤maxLen∧arr.length=cap*te.size∧
     arr.take ((n+k)*te.size)=cur.take (n*te.size)++news)):=by
 have hu:=hT.und _ _ ht;rw[hde]at hu;obtain⟨j,hj,hs,hb,z,hz,hzs,hzl,hzr⟩:=hT.info e te hte
 have hzc:∀k,(Builtin.zeroCells z.cells k).toList.length=k*te.size:=λk=>by rw[Wt,size_zeroCells,hzs]
 have h63:((n+k:Nat):Int)≤9223372036854775807:=by have h:=hlen;simp only[maxLen]at h;omega
 have asNew:∀{v:Value}{cap:Nat}{arr:List Value},(Builtin.append_ #[t,t] ty #[x,y]).run P w = .ok v (w.drew.alloc (.cells ⟨arr⟩ e))→v = .slice (some ⟨w.heap.size,0,none⟩) (n+k) cap→n+k≤cap→cap≤maxLen→arr.length=cap*te.size→arr.take ((n+k)*te.size)=cur.take (n*te.size)++news→
   ∃v w',(Builtin.append_ #[t,t] ty #[x,y]).run P w = .ok v w'∧w'.os=w.os∧w'.tape=w.tape∧w'.output=w.output∧w.drawn≤w'.drawn∧
   ((n+k=0∧(∃p,v = .slice p 0 0)∧(∃p,x = .slice p 0 0)∧w'=w)∨
    (∃b e' cap arr,x = .slice (some ⟨b,0,none⟩) n cap∧v = .slice (some ⟨b,0,none⟩) (n+k) cap∧w'.heap[b]? = some (.cells ⟨arr⟩ e' (0,0))∧(∀b2,b2≠b→w'.heap[b2]? = w.heap[b2]?)∧w'.heap.size=w.heap.size∧n+k≤cap∧cap≤maxLen∧arr.length=cap*te.size∧
     arr.take ((n+k)*te.size)=cur.take (n*te.size)++news∧(k=0→w'=w))∨
    (∃e' cap arr,v = .slice (some ⟨w.heap.size,0,none⟩) (n+k) cap∧w'.heap[w.heap.size]? = some (.cells ⟨arr⟩ e' (0,0))∧(∀b2,b2<w.heap.size→w'.heap[b2]? = w.heap[b2]?)∧w'.heap.size=w.heap.size+1∧n+k≤cap∧cap≤maxLen∧arr.length=cap*te.size∧
     arr.take ((n+k)*te.size)=cur.take (n*te.size)++news)):=by
  intro v cap arr h0 h1 h2 h3 h4 h5;refine⟨v,_,h0,rfl,rfl,rfl,QfU _,.inr (.inr ⟨e,cap,arr,h1,?_,?_,?_,h2,h3,h4,h5⟩)⟩
  ·exact heap_alloc_new w.drew (.cells ⟨arr⟩ e)
  ·intro b2 hb2;exact heap_alloc_old w.drew (.cells ⟨arr⟩ e) b2 hb2
  ·rw[World.size_alloc];rfl
 rcases hy with⟨⟨q,cap',rfl⟩,rfl,rfl⟩ | ⟨b',cap',rfl,hpos,n1,n2,h1⟩
 ·rcases hx with⟨⟨p,rfl⟩,rfl,rfl⟩ | ⟨b,e',cap,rfl,hbk,hle,hmx,hcl⟩
  ·exact⟨_,w,l9 t ty e j hu hj p 0 0 (MN _) q cap',rfl,rfl,rfl,MN _,.inl ⟨rfl,⟨p,rfl⟩,⟨p,rfl⟩,rfl⟩⟩
  ·refine⟨_,w,l9 t ty e j hu hj (some ⟨b,0,none⟩) n cap hle q cap',rfl,rfl,rfl,MN _,.inr (.inl ⟨b,e',cap,cur,rfl,rfl,hbk,λ_ _=>rfl,rfl,hle,hmx,hcl,by simp,λ_=>rfl⟩)⟩
 ·rcases hx with⟨⟨p,rfl⟩,rfl,rfl⟩ | ⟨b,e',cap,rfl,hbk,hle,hmx,hcl⟩
  ·simp only[OW,Nat.zero_mul,List.take_zero,PE]at *;have g1:=grownCap_ge w k 0 e;have g2:=grownCap_le_maxLen w k 0 e hlen
   have hA:(news++(Builtin.zeroCells z.cells (grownCap w k 0 e - k)).toList).length=grownCap w k 0 e*te.size:=by
    rw[La,n1,hzc,← Uk]
    congr 1
    omega
   have hB:(news++(Builtin.zeroCells z.cells (grownCap w k 0 e - k)).toList).take (k*te.size)=news:=by rw[← n1,List.take_left'];rfl
   cases p with
   | none=>
    have hr:=run_append_nil (P:=P) w t ty e j z hu hj hz b' k cap' news (by rw[n1,hs]) n2 hpos h63 (by rw[hb];omega)
    have harr:(news.toArray++Builtin.zeroCells z.cells (grownCap w k 0 e - k))=(⟨news++(Builtin.zeroCells z.cells (grownCap w k 0 e - k)).toList⟩:Array Value):=by apply Array.ext';simp
    rw[harr]at hr;exact asNew hr rfl g1 g2 hA hB
   | some b0=>
    have hr:=run_append_grow (P:=P) w t ty e j z hu hj hz b0 0 0 [] (by simp) (by simp) b' k cap' news (by rw[n1,hs]) n2 (by omega) (by simpa using h63)
     (growslice_fits (by omega) (by rw[hb,OW];exact hby))
    simp only[OW]at hr
    have harr:(([]:List Value).toArray++news.toArray++Builtin.zeroCells z.cells (grownCap w k 0 e - k))=(⟨news++(Builtin.zeroCells z.cells (grownCap w k 0 e - k)).toList⟩:Array Value):=by apply Array.ext';simp
    rw[harr]at hr;exact asNew hr rfl g1 g2 hA hB
  ·have hlo:(cur.take (n*te.size)).length=n*te.size:=by
    rw[Oy,hcl];exact QfR (Rp _ hle)
   by_cases hroom:n+k≤cap
   ·have hfit:n*j.size+news.length≤(⟨cur⟩:Array Value).size:=by
     rw[hs,n1,← Uk];show _≤cur.length;rw[hcl];exact Rp _ hroom
    have hr:=qi (P:=P) (w:=w) t ty e e' j hu hj b n cap ⟨cur⟩ hbk b' k cap' news (by rw[n1,hs]) n2 h1 hroom hfit
    rw[hs]at hr
    refine⟨_,_,hr,rfl,rfl,rfl,MN _,.inr (.inl ⟨b,e',cap,cur.take (n*te.size)++news++cur.drop (n*te.size+news.length),rfl,rfl,setRow_heap w b _ _ e' _ hbk,λb2 hne=>setRow_other w b b2 _ hne,by simp,hroom,hmx,?_,?_⟩)⟩
    ·rw[hs]at hfit;have hfit:n*te.size+news.length≤cur.length:=hfit;simp only[La,Ro,hlo];omega
    ·refine⟨?_,λh=>by omega⟩
     rw[List.take_left'];rw[La,hlo,n1,← Uk]
   ·have holds:∀(k:Nat)(v:Value),(cur.take (n*te.size))[k]? = some v→w.cell? ((⟨b,0,none⟩:Addr).add k)=some v:=by
     intro k v hk;rw[RG]at hk;split at hk
     ·rw[Addr.add_lit,OW];simp only[World.cell?,hbk];simpa using hk
     ·cases hk
    have hr:=run_append_grow (P:=P) w t ty e j z hu hj hz ⟨b,0,none⟩ n cap (cur.take (n*te.size)) (by rw[hlo,hs]) holds b' k cap' news (by rw[n1,hs]) n2 (by omega) h63
     (growslice_fits (by omega) (by rw[hb];exact hby))
    have g1:=grownCap_ge w (n+k) cap e;have g2:=grownCap_le_maxLen w (n+k) cap e hlen
    have harr:((cur.take (n*te.size)).toArray++news.toArray++Builtin.zeroCells z.cells (grownCap w (n+k) cap e - (n+k))) =
      (⟨cur.take (n*te.size)++news++(Builtin.zeroCells z.cells (grownCap w (n+k) cap e - (n+k))).toList⟩:Array Value):=by
     apply Array.ext';simp
    rw[harr]at hr;refine asNew hr rfl g1 g2 ?_ ?_
    ·rw[La,La,hlo,n1,hzc,← Uk,← Uk]
     congr 1
     omega
    ·rw[List.take_left'];rw[La,hlo,n1,← Uk]
theorem iJ:∀{a b:NS},MO (a++b)=MO a++MO b
 | [],b=>rfl
 | none::a,b=>iJ (a:=a)
 | some q::a,b=>by obtain⟨x,y⟩:=q;simp only[UF,MO,iJ (a:=a)]
theorem wy{Li:Nat→Prop}{t:Ty}{l:List (ET F t)}{b cap:Nat}{n:Nat×NS}(h:P8 w Li t l (some (b,cap,n))) :
  ∃cur e,w.heap[b]? = some (.cells ⟨cur⟩ e (0,0))∧cur.length=cap*LY F t∧n.1=l.length∧l.length≤cap∧cap≤maxLen∧n.2.length=l.length*LY F t∧(b::MO n.2).Nodup∧
   (∀(k:Nat)(d:ND F)(x:Value)(pl:Option (Nat×Nat×Nat)),(cells F t l)[k]? = some d→cur[k]? = some x→n.2[k]? = some pl→Ov w Li d x pl)∧∀u∈cur.take (l.length*LY F t),u.oneCell'=true:=by
 obtain⟨s1,s2,s3,s4,s5,cur,e,s6,s7,s8⟩:=h;rw[aH]at s4;refine⟨cur,e,s6,s7,s1,s2,s3,s4,s5,s8,?_⟩;intro u hu;obtain⟨k,hk⟩:=XT hu;rw[RG]at hk;split at hk
 ·rename_i hlt
  have:=s8 k _ u _ (K9 (by rw[aH];exact hlt)) hk (K9 (by omega))
  revert this
  generalize(cells F t l)[k]'(by rw[aH];exact hlt)=d
  generalize n.2[k]'(by omega)=pl
  intro h
  cases d with
  | sl t' l'=>
   cases pl with
   | none=>obtain⟨p,rfl⟩:=h.2;rfl
   | some q=>obtain⟨b1,c1,n1⟩:=q;have h2:u = .slice (some ⟨b1,0,none⟩) n1 c1:=h.2;subst h2;rfl
  | _=>exact h.2.2.oneCell
 ·cases hk
theorem uX{Li LX:Nat→Prop}{w':World}(hi:∀b,Li b→LX b)(hw:∀b,Li b→w'.heap[b]? = w.heap[b]?){t:Ty}{l ys:List (ET F t)}{ns Vs:NS}{cur Ya arr:List Value}{b cap:Nat}{e:TypeId}
  (hcur:l.length*LY F t≤cur.length) (hcur2:ys.length*LY F t≤Ya.length) (hn1:ns.length=l.length*LY F t) (hn2:Vs.length=ys.length*LY F t)
  (h1:∀(k:Nat)(d:ND F)(x:Value)(pl:Option (Nat×Nat×Nat)),(cells F t l)[k]? = some d→cur[k]? = some x→ns[k]? = some pl→Ov w Li d x pl)
  (h2:∀(k:Nat)(d:ND F)(x:Value)(pl:Option (Nat×Nat×Nat)),(cells F t ys)[k]? = some d→Ya[k]? = some x→Vs[k]? = some pl→Ov w Li d x pl)
  (hh:w'.heap[b]? = some (.cells ⟨arr⟩ e (0,0))) (hlen:(l++ys).length≤cap) (hmx:cap≤maxLen) (harr:arr.length=cap*LY F t) (htake:arr.take ((l.length+ys.length)*LY F t)=cur.take (l.length*LY F t)++Ya.take (ys.length*LY F t))
  (hnd:(b::(MO ns++MO Vs)).Nodup) (hold:∀b2∈MO ns++MO Vs,w'.heap[b2]? = w.heap[b2]?):P8 w' LX t (l++ys) (some (b,cap,(l++ys).length,ns++Vs)):=by
 have hc1:(cells F t l).length=l.length*LY F t:=aH;have hc2:(cells F t ys).length=ys.length*LY F t:=aH
 refine⟨rfl,hlen,hmx,?_,by rw[iJ];exact hnd,arr,e,hh,harr,?_⟩
 ·rw[aH,La,La,hn1,hn2,Uk]
 ·intro k d x pl p1 p2 p3;rw[kY]at p1
  have hk:k<(l.length+ys.length)*LY F t:=by have:=(K_.1 p1).1;rw[La,hc1,hc2,← Uk]at this;exact this
  have p2':(arr.take ((l.length+ys.length)*LY F t))[k]? = some x:=by rw[RG,if_pos hk];exact p2
  rw[htake]at p2'
  have e1:(cur.take (l.length*LY F t)).length=l.length*LY F t:=by rw[Oy];omega
  have fin:∀{d:ND F}{pl:Option (Nat×Nat×Nat)},(∀b c,pl=some (b,c)→b∈MO ns++MO Vs)→Ov w Li d x pl→Ov w' LX d x pl:=λhm h=>h.O_ hi hw (λb c e=>hold b (hm b c e));by_cases hk1:k<l.length*LY F t
  ·rw[Rv (by omega)]at p1
   rw[Rv (by omega),RG,if_pos hk1]at p2'
   rw[Rv (by omega)]at p3
   refine fin ?_ (h1 k d x pl p1 p2' p3);rintro b c rfl;exact ZP _ (jI p3)
  ·rw[RF (by omega),hc1]at p1
   rw[RF (by omega),e1,RG]at p2'
   rw[RF (by omega),hn1]at p3
   split at p2'
   ·refine fin ?_ (h2 _ d x pl p1 p2' p3);rintro b c rfl;exact ZU _ (jI p3)
   ·cases p2'
theorem tU(hT:Mc P T)(hm:LQ own g w m)(hd:∀id,u id=false→g.ids id=none)(hall:∀b,w.heap.size≤b→own.o b)(hfr:u c=false)
  {t e:TypeId} {i te:TI F} (ht:T t=some i) (hde:i.desc = .slice e) (hte:T e=some te) (hz0:0<te.size) {tt:Ty} (hsz:LY F tt=te.size) {x y:Operand}
  (ho:o.op = .call { callee:=.builtin .append,args:=#[x,y],argTypes:=#[t,t] }) {l0 ys r:List (ET F tt)} (hr:app te.bytes l0 ys=some r) {rm:List Nat} {ZX ply:Pl}
  (hx:P8 w g.Li tt l0 ZX) (hy:P8 w g.Li tt ys ply) (hxv:Ol ZX (a.eval x)) (hyv:Ol ply (a.eval y))
  (hbx:∀b0 c,ZX=some (b0,c)→∀b∈b0::MO c.2.2,∃r∈rm,∃B0,m r=some B0∧B0.owned=true∧g.blk r b) (hby:∀b0 c,ply=some (b0,c)→∀b∈b0::MO c.2.2,∃r∈rm,∃B0,m r=some B0∧B0.owned=true∧g.blk r b)
  (hdj:∀b0 c b1 c1,ZX=some (b0,c)→ply=some (b1,c1)→∀b∈b0::MO c.2.2,b∉b1::MO c1.2.2) :
  PY P own m u g w o a c { val:=.c (.Nn c),mw:=rm.map (λr=>(r,none))++[(c,some (.Nc tt r))],nu:=1 }:=by
 have PO:∀{v:Value}{w':World},(Builtin.append_ #[t,t] o.type #[a.eval x,a.eval y]).run P w = .ok v w'→(execOp a.eval o).run P w = .ok (.value v) w':=by intro v w' hr;simp only[execOp,ho,resolve,invoke,builtin,OA,PD,OM,QgD,M9,Oi,hr]
 obtain⟨rfl,v3,v4⟩:=tc hr;have Tt:g.ids c=none:=hd c hfr;have hlen:(l0++ys).length=l0.length+ys.length:=La
 have fin:∀{v:Value}{w':World}{pl:Pl},(execOp a.eval o).run P w = .ok (.value v) w'→LQ own (g.name c pl) w' (Ml m (rm.map (λr=>(r,none))++[(c,some (.Nc tt (l0++ys)))]))∧
   Stp m g w (g.name c pl) w'→Mh (F:=F) (g.name c pl) w' (.Nn c) v→PY P own m u g w o a c { val:=.c (.Nn c),mw:=rm.map (λr=>(r,none))++[(c,some (.Nc tt (l0++ys)))],nu:=1 }:=by
  intro v w' pl hr k k3;intro next Q hn;unfold Oper.wp;rw[hr];refine hn v w' (g.name c pl) (.c k3) k.1 k.2 ?_;intro id hu' hx';have hx':id<c∨c+1≤id:=hx'
  have:id≠c:=by omega
  rw[cj _ _ _ this];exact hd id hu'
 have low:∀{b:Nat},(∃r∈rm,∃B0,m r=some B0∧B0.owned=true∧g.blk r b)→b<w.heap.size:=by rintro b ⟨r,_,B0,h1,h2,h3⟩;exact(hm.ok r B0 h1).place hm.Li (Mg.PU h2) h3
 have hX:∃(ns:NS)(cur:List Value),ns.length=l0.length*te.size∧l0.length*te.size≤cur.length∧(MO ns).Nodup∧(∀(k:Nat)(d:ND F)(x:Value)(pl:Option (Nat×Nat×Nat)),(cells F tt l0)[k]? = some d→cur[k]? = some x→ns[k]? = some pl→Ov w g.Li d x pl)∧
   (∀b∈MO ns,∃b0 c,ZX=some (b0,c)∧b∈MO c.2.2∧b≠b0)∧
   (((∃p,a.eval x = .slice p 0 0)∧l0.length=0∧cur = [])∨∃b e' cap,a.eval x = .slice (some ⟨b,0,none⟩) l0.length cap∧w.heap[b]? = some (.cells ⟨cur⟩ e' (0,0))∧l0.length≤cap∧cap≤maxLen∧cur.length=cap*te.size∧∃c,ZX=some (b,c)∧b∉MO ns):=by
  cases ZX with
  | none=>
   have hx:l0 = []:=hx;subst hx
   exact⟨[],[],by simp,by simp,Z6,λk d x pl h=>by simp[cells]at h,λb hb=>by simp[MO]at hb,.inl ⟨hxv,rfl,rfl⟩⟩
  | some q=>
   obtain⟨b,cap,n⟩:=q;obtain⟨cur,e',s1,s2,s3,s4,s5,s6,s7,s8,s9⟩:=wy hx;have s7':=Ug.1 s7;have hxv:a.eval x = .slice (some ⟨b,0,none⟩) n.1 cap:=hxv;rw[hsz]at s2 s6
   refine⟨n.2,cur,s6,by rw[s2];exact Rp _ s4,s7'.2,s8,λb1 hb=>⟨b,_,rfl,hb,λe=>s7'.1 (e▸hb)⟩,.inr ⟨b,e',cap,by rw[hxv,s3],s1,s4,s5,s2,_,rfl,s7'.1⟩⟩
 have hY:∃(ns:NS)(cur:List Value),ns.length=ys.length*te.size∧ys.length*te.size≤cur.length∧(MO ns).Nodup∧(∀(k:Nat)(d:ND F)(x:Value)(pl:Option (Nat×Nat×Nat)),(cells F tt ys)[k]? = some d→cur[k]? = some x→ns[k]? = some pl→Ov w g.Li d x pl)∧
   (∀b∈MO ns,∃b0 c,ply=some (b0,c)∧b∈MO c.2.2)∧
   (((∃p cap,a.eval y = .slice p 0 cap)∧ys.length=0∧cur.take (ys.length*te.size) = [])∨∃b' cap',a.eval y = .slice (some b') ys.length cap'∧0<ys.length∧(cur.take (ys.length*te.size)).length=ys.length*te.size∧(∀(j:Nat)(u:Value),(cur.take (ys.length*te.size))[j]? = some u→w.cell? (b'.add j)=some u)∧∀u∈cur.take (ys.length*te.size),u.oneCell'=true):=by
  cases ply with
  | none=>
   have hy:ys = []:=hy;subst hy;obtain⟨p,hyv⟩:=hyv
   exact⟨[],[],by simp,by simp,Z6,λk d x pl h=>by simp[cells]at h,λb hb=>by simp[MO]at hb,.inl ⟨⟨p,0,hyv⟩,rfl,by simp⟩⟩
  | some q=>
   obtain⟨b,cap,n⟩:=q;obtain⟨cur,e',s1,s2,s3,s4,s5,s6,s7,s8,s9⟩:=wy hy;have s7':=Ug.1 s7;have hyv:a.eval y = .slice (some ⟨b,0,none⟩) n.1 cap:=hyv;rw[hsz]at s2 s6 s9
   have hle:ys.length*te.size≤cur.length:=by rw[s2];exact Rp _ s4
   refine⟨n.2,cur,s6,hle,s7'.2,s8,λb1 hb=>⟨b,_,rfl,hb⟩,?_⟩;by_cases h0:ys.length=0
   ·exact .inl ⟨⟨_,cap,by rw[hyv,s3,h0]⟩,h0,by rw[h0];simp⟩
   ·refine .inr ⟨_,cap,by rw[hyv,s3],by omega,by rw[Oy];omega,?_,s9⟩
    intro j u hj;rw[RG]at hj;split at hj
    ·rw[Addr.add_lit,OW];simp only[World.cell?,s1];simpa using hj
    ·cases hj
 obtain⟨ns,cur,x1,x2,x3,x4,x5,x6⟩:=hX;obtain⟨Vs,Ya,y1,y2,y3,y4,y5,y6⟩:=hY
 have inX:∀b∈MO ns,∃r∈rm,∃B0,m r=some B0∧B0.owned=true∧g.blk r b:=by intro b hb;obtain⟨b0,c,e1,e2,_⟩:=x5 b hb;exact hbx b0 c e1 b (Uh _ e2)
 have inY:∀b∈MO Vs,∃r∈rm,∃B0,m r=some B0∧B0.owned=true∧g.blk r b:=by intro b hb;obtain⟨b0,c,e1,e2⟩:=y5 b hb;exact hby b0 c e1 b (Uh _ e2)
 have hXY:(MO ns++MO Vs).Nodup:=by refine Yo.2 ⟨x3,y3,?_⟩;rintro b hb b1 hb1 rfl;obtain⟨b0,c,e1,e2,_⟩:=x5 b hb;obtain⟨b1,c1,f1,f2⟩:=y5 b hb1;exact hdj _ _ _ _ e1 f1 b (Uh _ e2) (Uh _ f2)
 have aar:∀b∈MO ns++MO Vs,∃r∈rm,∃B0,m r=some B0∧B0.owned=true∧g.blk r b:=by
  intro b hb;rcases OB.1 hb with hb | hb
  ·exact inX b hb
  ·exact inY b hb
 have hx0:((∃p,a.eval x = .slice p 0 0)∧l0.length=0∧cur = [])∨∃b e' cap,a.eval x = .slice (some ⟨b,0,none⟩) l0.length cap∧w.heap[b]? = some (.cells ⟨cur⟩ e' (0,0))∧l0.length≤cap∧cap≤maxLen∧cur.length=cap*te.size:=by
  rcases x6 with h | ⟨b,e',cap,h1,h2,h3,h4,h5,_⟩
  ·exact .inl h
  ·exact .inr ⟨b,e',cap,h1,h2,h3,h4,h5⟩
 obtain⟨v,w',hrun,o1,o2,o3,o4,hcase⟩:=Di (P:=P) (w:=w) (ty:=o.type) hT ht hde hte hz0 hx0 y6 (by rw[← hlen];exact v3) (by rw[← hlen];exact v4)
 have hrun':=PO hrun;rw[← hsz]at *;rcases hcase with⟨h0,⟨p,rfl⟩,_,rfl⟩ | ⟨b,e',cap,arr,hxe,rfl,h1,h2,h3,h4,h5,h6,h7,h8⟩ | ⟨e',cap,arr,rfl,h1,h2,h3,h4,h5,h6,h7⟩
 ·have hnil:l0++ys = []:=Ui (by omega)
  refine fin (pl:=none) hrun' (kZ hm Tt (λ_ _ h=>by cases h) rfl rfl rfl (MN _) (MN _) (λ_ _ _=>rfl) (λg' _ hi=>⟨none,hi,hnil⟩)) (.PG p (bv _ _ _))
 ·rcases x6 with⟨⟨p,hp⟩,_,rfl⟩ | ⟨b1,e1,cap1,hp,hh,_,_,_,c1,hpl,hnb⟩
  ·rw[hxe]at hp
   injection hp with e1 e2 e3
   subst e3
   have hy0:ys.length=0:=by omega
   have hnil:l0++ys = []:=Ui (by omega)
   have:=h8 hy0;subst this
   refine fin (pl:=none) hrun' (kZ hm Tt (λ_ _ h=>by cases h) rfl rfl rfl (MN _) (MN _) (λ_ _ _=>rfl) (λg' _ hi=>⟨none,hi,hnil⟩)) ?_
   rw[e2,hy0];exact .PG _ (bv _ _ _)
  ·rw[hxe]at hp;cases hp;have hblk:=hbx b c1 hpl b ZT
   have aoY:b∉MO Vs:=by intro hb;obtain⟨b2,c2,f1,f2⟩:=y5 b hb;exact hdj _ _ _ _ hpl f1 b ZT (Uh _ f2)
   have hnd:(b::(MO ns++MO Vs)).Nodup:=Ug.2 ⟨λhb=>(OB.1 hb).elim hnb aoY,hXY⟩
   refine fin (pl:=some (b,cap,(l0++ys).length,ns++Vs)) hrun' (kZ hm Tt ?_ o1 o2 o3 o4 (by omega) ?_ ?_) ?_
   ·intro b0 c0 e0 b1 hb1;cases e0;rcases Nz.1 hb1 with rfl | hb1
    ·exact .inr hblk
    ·simp only[iJ]at hb1;exact .inr (aar b1 hb1)
   ·intro b2 hb2 hno;refine h2 b2 ?_;rintro rfl;obtain⟨r,hr,B0,q1,q2,q3⟩:=hblk;exact hno r hr B0 q1 q2 q3
   ·intro g' hle hi
    refine⟨_,hi,uX hle.Li hle.heap x2 y2 x1 y1 x4 y4 h1 (by omega) h5 h6 h7 hnd ?_⟩
    intro b2 hb2;refine h2 b2 ?_;rintro rfl;exact(Ug.1 hnd).1 hb2
   ·rw[← hlen]
    exact .Nn (n:=((l0++ys).length,ns++Vs)) (bv _ _ _) (by dsimp only;omega) h5
 ·have hnd:(w.heap.size::(MO ns++MO Vs)).Nodup:=Ug.2 ⟨λhb=>Nat.lt_irrefl _ (low (aar _ hb)),hXY⟩
  refine fin (pl:=some (w.heap.size,cap,(l0++ys).length,ns++Vs)) hrun' (kZ hm Tt ?_ o1 o2 o3 o4 (by omega) ?_ ?_) ?_
  ·intro b0 c0 e0 b1 hb1;cases e0;rcases Nz.1 hb1 with rfl | hb1
   ·exact .inl ⟨MN _,by omega,hall _ (MN _)⟩
   ·simp only[iJ]at hb1;exact .inr (aar b1 hb1)
  ·intro b2 hb2 _;exact h2 b2 hb2
  ·intro g' hle hi
   exact⟨_,hi,uX hle.Li hle.heap x2 y2 x1 y1 x4 y4 h1 (by omega) h5 h6 h7 hnd (λb2 hb2=>h2 b2 (low (aar b2 hb2)))⟩
  ·rw[← hlen]
   exact .Nn (n:=((l0++ys).length,ns++Vs)) (bv _ _ _) (by dsimp only;omega) h5
theorem sw(hm:LQ own g w m){id:Nat}{t:Ty}{l:List (ET F t)}(h:m id=some (.Nc t l)){v:Value}(hv:Mh (F:=F) g w (.Nn id) v):∃pl,g.ids id=some pl∧P8 w g.Li t l pl∧Ol pl v:=by
 obtain⟨pl,k1,k2⟩:=hm.ok id _ h;refine⟨pl,k1,k2,?_⟩;rcases bu hv with⟨hi,p,rfl⟩ | ⟨b,c,n,hi,h1,h2,rfl⟩
 ·rw[hi]at k1;cases k1;exact⟨p,rfl⟩
 ·rw[hi]at k1;cases k1;rfl
theorem BF(hT:Mc P T){t0 t1:TypeId}{x y:Operand}(ho:o.op = .call { callee:=.builtin .append,args:=#[x,y],argTypes:=#[t0,t1] }):Rule P o vals mm c K (wY T vals mm c K t0 t1):=by
 unfold wY;refine aA (λ_=>af) (λV_=>?_)
 have aoK:t1=t0:=by simpa using V_
 subst aoK;split
 ·rename_i e sz bt zero _ _ ht;split
  ·exact af
  ·rename_i te hte;split
   ·exact af
   ·rename_i tt V_;have hsz:=hT.ty e te tt hte V_;refine aA (λ_=>af) (λhz0=>?_);split
    ·rename_i rm l0 ys hnr;refine aE λr hr=>?_;intro r' hr';refine⟨_,hr',?_⟩;intro own g w a m u hle hm hd hall hfr hrep;rw[ho]at hrep;simp only[Op.operands,Call.operands,M9,Oi,QeO,UD,PE]at hrep;unfold B9 at hnr;split at hnr
     ·rename_i id2;split at hnr
      ·rename_i t2 l2 hrow;split at hnr
       ·rename_i hk;subst hk;simp only[NJ,Prod.mk.injEq]at hnr;obtain⟨rfl,rfl,h⟩:=hnr;subst h;obtain⟨h1,h2⟩:=M5 hrep;obtain⟨pl,k1,k2,k3⟩:=sw hm (hle _ _ hrow) (bh h2)
        refine tU (ZX:=none) hT hm hd hall (hfr 0 (by simp)) ht rfl hte (by omega) hsz ho hr rfl k2 (pw h1) k3 (λ_ _ h=>by cases h) ?_ (λ_ _ _ _ h=>by cases h)
        rintro b0 c rfl b hb
        exact⟨id2,by simp,_,hle _ _ hrow,rfl,b0,c,k1,hb⟩
       ·cases hnr
      ·cases hnr
     ·rename_i id id2;split at hnr
      ·rename_i t1 l1 t2 l2 Zl hrow;split at hnr
       ·rename_i hk;subst hk;split at hnr
        ·rename_i hk;subst hk;split at hnr
         ·cases hnr
         ·rename_i hne;simp only[NJ,Prod.mk.injEq]at hnr;obtain⟨rfl,h,h'⟩:=hnr;subst h h';obtain⟨h1,h2⟩:=M5 hrep;obtain⟨pl,k1,k2,k3⟩:=sw hm (hle _ _ hrow) (bh h2);obtain⟨ZX,q1,q2,q3⟩:=sw hm (hle _ _ Zl) (bh h1)
          refine tU hT hm hd hall (hfr 0 (by simp)) ht rfl hte (by omega) hsz ho hr q2 k2 q3 k3 ?_ ?_ ?_
          ·rintro b0 c rfl b hb
           exact⟨id,by simp,_,hle _ _ Zl,rfl,b0,c,q1,hb⟩
          ·rintro b0 c rfl b hb
           exact⟨id2,by simp,_,hle _ _ hrow,rfl,b0,c,k1,hb⟩
          ·rintro b0 c b1 c1 rfl rfl b hb hb1;have:=hm.SX id id2 _ _ b (hle _ _ Zl) (hle _ _ hrow) rfl rfl ⟨b0,c,q1,hb⟩ ⟨b1,c1,k1,hb1⟩;subst this;exact hne (bC _)
        ·cases hnr
       ·cases hnr
      ·cases hnr
     ·cases hnr
    split
    ·rename_i dx dy;split
     ·exact af
     ·rename_i ys hys;split
      ·refine aE λr hr=>?_;intro r' hr';refine⟨_,hr',?_⟩;intro own g w a m u hle hm hd hall hfr hrep;rw[ho]at hrep;simp only[Op.operands,Call.operands,M9,Oi,QeO,UD,PE]at hrep;obtain⟨h1,h2⟩:=M5 hrep;obtain⟨p,hp⟩:=pw h1
       exact uT (rm:=[]) hT hm hd hall (hfr 0 (by simp)) ht rfl hte (by omega) hsz ho hr (ww hm hle hys h2) (.inl ⟨p,hp,rfl⟩)
      ·rename_i id;split
       ·rename_i t' l hrow;split
        ·rename_i hk;subst hk;refine aE λr hr=>?_;intro r' hr';refine⟨_,hr',?_⟩;intro own g w a m u hle hm hd hall hfr hrep;rw[ho]at hrep;simp only[Op.operands,Call.operands,M9,Oi,QeO,UD,PE]at hrep;obtain⟨h1,h2⟩:=M5 hrep
         refine uT (rm:=[id]) hT hm hd hall (hfr 0 (by simp)) ht rfl hte (by omega) hsz ho hr (ww hm hle hys h2) ?_
         rcases bu (bh h1)with⟨hi,p,hv⟩ | ⟨b,cap,n,hi,h3,h4,hv⟩
         ·rcases hm.ok id _ (hle _ _ hrow)with⟨_,rfl⟩ | ⟨_,_,_,_,k1,_⟩
          ·exact .inl ⟨p,hv,rfl⟩
          ·rw[hi]at k1;cases k1
         ·rcases hm.ok id _ (hle _ _ hrow)with⟨k1,_⟩ | ⟨b',cap',cur,e',k1,k2,k3,k4,k5,k6⟩
          ·rw[hi]at k1;cases k1
          ·rw[hi]at k1;cases k1;exact .inr ⟨id,b,cap,cur,e',rfl,hv,hle _ _ hrow,hi,k2,k3,k4,k5,k6⟩
        ·exact af
       ·exact af
      ·exact af
    ·exact af
 ·exact af
theorem yd{t:Ty}{l ys:List (ET F t)}{a n:Nat}(h:a+min n ys.length≤l.length):cells F t (Rn l a n ys)=(cells F t l).take (a*LY F t)++(cells F t ys).take (n*LY F t)++(cells F t l).drop (a*LY F t+((cells F t ys).take (n*LY F t)).length):=by
 have h1:cells F t (l.take a)=(cells F t l).take (a*LY F t):=by have:=mu (F:=F) (l:=l) (a:=0) (n:=a);simpa[Fx.sub]using this
 have h2:cells F t (ys.take n)=(cells F t ys).take (n*LY F t):=by have:=mu (F:=F) (l:=ys) (a:=0) (n:=n);simpa[Fx.sub]using this
 have h3:∀k,cells F t (l.drop k)=(cells F t l).drop (k*LY F t):=by
  intro k;have:=mu (F:=F) (l:=l) (a:=k) (n:=l.length);unfold Fx.sub at this
  rw[Wv (by simp)]at this
  rw[this,Wv];rw[Ro,aH];omega
 unfold Rn;rw[kY,kY,h1,h2,h3]
 congr 2
 rw[Oy,aH,Uk]
 congr 1
 exact(QeX _ _ _).symm
theorem Ag{t t1 ty e:TypeId}{j:TypeInfo}(hu:P.underlying t=some (.slice e))(hj:P.info? e=some j){b q dLen dCap:Nat}{p:Option Addr}{sLen sCap:Nat}{cur news:List Value}{e':TypeId}
  (hb:w.heap[b]? = some (.cells ⟨cur⟩ e' (0,0))) (hl:news.length=sLen*j.size) (hp0:p=none→sLen=0) (hp:∀p',p=some p'→∀(k:Nat)(x:Value),news[k]? = some x→w.cell? (p'.add k)=some x)
  (h1:∀x∈news,x.oneCell'=true) (hfit:q+(news.take (dLen*j.size)).length≤cur.length) :
  (Builtin.copy_ #[t,t1] ty #[.slice (some ⟨b,q,none⟩) dLen dCap,.slice p sLen sCap]).run P w =
    .ok (goInt ((min sLen dLen:Nat):Int)) (w.setRow b (cur.take q++news.take (dLen*j.size)++cur.drop (q+(news.take (dLen*j.size)).length)).toArray):=by
 have hn:(news.take (dLen*j.size)).length=(min sLen dLen)*j.size:=by rw[Oy,hl,QeX,Nat.min_comm]
 have hst:=run_storeCells_at P b q e' (news.take (dLen*j.size)) 0 ⟨cur⟩ w hb (by simpa using hfit) (λv hv=>h1 v (QeK hv))
 simp only[Vm]at hst
 cases p with
 | none=>
  have h0:=hp0 rfl;subst h0
  have hnil:news = []:=Ui (by simpa using hl)
  subst hnil;simp only[List.take_nil]at hst ⊢;have hm:Nat.min 0 dLen=0:=Nat.zero_min dLen;have hm2:min 0 dLen=0:=Nat.zero_min dLen;simp only[Builtin.copy_,OA,PD,run_underlying hu,Builtin.lenOf,Builtin.firstCells,sizeOf,typeInfo,run_program,hj,OM,List.getElem?_toArray,hst,hm,hm2];simp[Builtin.copy_,run_underlying hu,Builtin.lenOf,Builtin.firstCells,sizeOf,typeInfo,hj,hst,hm]
 | some p'=>
  have hf:=run_firstCells_some (P:=P) w j.size (min sLen dLen) p' sLen sCap (news.take (dLen*j.size)) hn (λk x hx=>by
   rw[RG]at hx;split at hx
   ·exact hp p' rfl k x hx
   ·cases hx)
  have hm:Nat.min sLen dLen=min sLen dLen:=rfl
  have hc:(((min sLen dLen:Nat)):Int)=min (sLen:Int) (dLen:Int):=by omega
  simp[Builtin.copy_,run_underlying hu,Builtin.lenOf,sizeOf,typeInfo,hj,hf,hm,hst,hc]
theorem ux{α : Type}{l ys:List α}{a n:Nat}(h:a+min n ys.length≤l.length):(Rn l a n ys).length=l.length:=by unfold Rn;simp only[La,Oy,Ro];omega
theorem yy(hT:Mc P T)(hm:LQ own g w m)(hd:∀id,u id=false→g.ids id=none)
  {t t1 e:TypeId} {i te:TI F} (ht:T t=some i) (hde:i.desc = .slice e) (hte:T e=some te) {tt:Ty} (hsz:LY F tt=te.size) {x y:Operand}
  (ho:o.op = .call { callee:=.builtin .copy,args:=#[x,y],argTypes:=#[t,t1] }) {l ys:List (ET F tt)} {id off n:Nat} (hrow:m id=some (.row tt l)) (hsrc:V6 g w tt (a.eval y) ys)
  (hdst:(g.ids id=none∨g.ids id=some none)∧off=0∧n=0∧(∃p,a.eval x = .slice p 0 0)∨∃b q dCap cap,g.ids id=some (some (b,cap,l.length,[]))∧a.eval x = .slice (some ⟨b,q,none⟩) n dCap∧off+n≤l.length∧(n=0∨q=off*LY F tt)) :
  PY P own m u g w o a c { val:=.c (.im (.i .i64 (min n ys.length:Nat))),mw:=[(id,some (.row tt (Rn l off n ys)))] }:=by
 have hu:=hT.und _ _ ht;rw[hde]at hu;obtain⟨j,hj,hs,hb,z,hz,hzs,hzl,hzr⟩:=hT.info e te hte
 have PO:∀{v:Value}{w':World},(Builtin.copy_ #[t,t1] o.type #[a.eval x,a.eval y]).run P w = .ok v w'→(execOp a.eval o).run P w = .ok (.value v) w':=by intro v w' hr;simp only[execOp,ho,resolve,invoke,builtin,OA,PD,OM,QgD,M9,Oi,hr]
 obtain⟨q',cap',news,hyv,n1,n0,n2,n3⟩:=hsrc
 have same:∀{l':List (ET F tt)},l'=l→Ml m [(id,some (.row tt l'))]=m:=by
  rintro l' rfl
  funext x
  simp only[Ml];split
  ·rename_i hx;rw[← Rh hx,hrow]
  ·rfl
 have h1:∀x∈news,x.oneCell'=true:=by
  intro x hx;obtain⟨k,hk⟩:=XT hx
  have hlt:k<(cells F tt ys).length:=by have:=(K_.1 hk).1;rw[aH];omega
  exact(n3 k _ x (K9 hlt) hk).oneCell
 rcases hdst with⟨hid,rfl,rfl,p,hxv⟩ | ⟨b,q,dCap,cap,hid,hxv,hoff,hq⟩
 ·have hl:Rn l 0 0 ys=l:=by simp[Rn]
  have hrun:(execOp a.eval o).run P w = .ok (.value (goInt 0)) w:=by
   refine PO ?_;rw[hxv,hyv];have e1:Nat.min ys.length 0=0:=Nat.min_zero _
   cases p<;>cases q'<;>simp[Builtin.copy_,run_underlying hu,Builtin.lenOf,Builtin.firstCells,sizeOf,typeInfo,hj,e1,storeCells,loadCells,loadCellsFrom]
  intro next Q hn;unfold Oper.wp;rw[hrun]
  refine hn _ w g ?_ (by rw[same hl];exact hm) (.refl _ _ _) (λid hu _=>hd id hu)
  have:((min 0 ys.length:Nat):Int)=0:=by simp
  rw[this];exact OD _ _
 ·rcases hm.ok id _ hrow with⟨k1,_⟩ | ⟨b',cap2,cur,e',k1,k2,k3,k4,k5,k6⟩
  ·rw[k1]at hid;cases hid
  ·rw[k1]at hid;cases hid;have hcl:(cells F tt l).length=l.length*LY F tt:=aH
   have hcur:(cells F tt l).length≤cur.length:=by rw[hcl,k5];exact Rp _ k3
   have hm1:off+min n ys.length≤l.length:=by omega
   by_cases hn0:n=0
   ·
    subst hn0
    have hrun:=Ag (P:=P) (w:=w) (t1:=t1) (ty:=o.type) (dLen:=0) (dCap:=dCap) (q:=0) (p:=q') (sLen:=ys.length) (sCap:=cap') hu hj k2 (by rw[n1,hsz,hs]) (λh=>by rw[(n0 h).1];rfl) n2 h1 (by simp)
    have hrun':(execOp a.eval o).run P w = .ok (.value (goInt 0)) w:=by
     refine PO ?_;rw[hxv,hyv];have e1:Nat.min ys.length 0=0:=Nat.min_zero _
     cases q'<;>simp[Builtin.copy_,run_underlying hu,Builtin.lenOf,Builtin.firstCells,sizeOf,typeInfo,hj,e1,storeCells,loadCells,loadCellsFrom]
    have hl:Rn l off 0 ys=l:=by simp[Rn]
    intro next Q hn;unfold Oper.wp;rw[hrun']
    refine hn _ w g ?_ (by rw[same hl];exact hm) (.refl _ _ _) (λid hu _=>hd id hu)
    have:((min 0 ys.length:Nat):Int)=0:=by simp
    rw[this];exact OD _ _
   ·have hq:q=off*LY F tt:=hq.resolve_left hn0;subst hq
    have htk:(news.take (n*j.size)).length=min n ys.length*LY F tt:=by rw[Oy,n1,hs,← hsz,QeX]
    have hfit:off*LY F tt+(news.take (n*j.size)).length≤cur.length:=by rw[htk,← Uk];have:(off+min n ys.length)*LY F tt≤l.length*LY F tt:=Rp _ hm1;omega
    have hrun:=Ag (P:=P) (w:=w) (t1:=t1) (ty:=o.type) (dLen:=n) (dCap:=dCap) (q:=off*LY F tt) (p:=q') (sLen:=ys.length) (sCap:=cap') hu hj k2 (by rw[n1,hsz,hs]) (λh=>by rw[(n0 h).1];rfl) n2 h1 hfit
    obtain⟨w1,w2⟩:=uf (B':=.row tt (Rn l off n ys)) (arr:=cur.take (off*LY F tt)++news.take (n*j.size)++cur.drop (off*LY F tt+(news.take (n*j.size)).length)) hm hrow rfl k1 k2 (by
     intro hh hle'
     refine .inr ⟨b,cap,_,e',by rw[ux hm1];exact k1,hh,by rw[ux hm1];exact k3,k4,?_,?_⟩
     ·simp only[La,Oy,Ro];rw[Oy]at hfit;omega
     ·intro k d x p q;refine L_.le hle' ?_;rw[yd hm1]at p
      have e1:n*j.size=n*LY F tt:=by rw[hs,hsz]
      rw[e1]at q htk;refine rY (w:=w) (Li:=g.Li) (cs:=cells F tt l) (ds:=(cells F tt ys).take (n*LY F tt)) (cur:=cur) (vs:=news.take (n*LY F tt)) (q:=off*LY F tt) ?_ hcur k6 ?_ ?_ k d x p q
      ·rw[Oy,aH,aH,QeX,← Uk];exact Rp _ hm1
      ·rw[htk,Oy,aH,QeX]
      ·intro k d x h3 h4;rw[RG]at h3 h4;split at h3
       ·rename_i hk;rw[if_pos hk]at h4;exact n3 k d x h3 h4
       ·cases h3)
    intro next Q hn;unfold Oper.wp
    rw[PO (by rw[hxv,hyv];exact hrun)]
    refine hn _ _ g ?_ w1 w2 (λid hu _=>hd id hu);rw[Nat.min_comm];exact OD _ _
theorem Fp(hT:Mc P T){t t1:TypeId}{x y:Operand}(ho:o.op = .call { callee:=.builtin .copy,args:=#[x,y],argTypes:=#[t,t1] }):Rule P o vals mm c K (Y2 T vals mm K t):=by
 unfold Y2;split
 ·rename_i e _ _ _ _ _ ht;split
  ·exact af
  ·rename_i te hte;split
   ·rename_i id dy;split
    ·rename_i tt l hrow;refine aA (λhsz=>?_) (λ_=>af);split
     ·rename_i ys hys;intro r' hr';refine⟨_,hr',?_⟩;intro own g w a m u hle hm hd hall hfr hrep;rw[ho]at hrep;simp only[Op.operands,Call.operands,M9,Oi,QeO,UD,PE]at hrep;obtain⟨h1,h2⟩:=M5 hrep;refine yy hT hm hd ht rfl hte hsz ho (hle _ _ hrow) (ww hm hle hys h2) ?_;rcases bu (bh h1)with⟨hi,p,hv⟩ | ⟨b,cap,n,hi,h3,h4,hv⟩
      ·rcases hm.ok id _ (hle _ _ hrow)with⟨_,rfl⟩ | ⟨_,_,_,_,k1,_⟩
       ·exact .inl ⟨.inr hi,rfl,rfl,p,hv⟩
       ·rw[hi]at k1;cases k1
      ·obtain⟨rfl,_,_⟩:=cV hm (hle _ _ hrow) hi
       exact .inr ⟨b,0,cap,cap,hi,hv,by omega,.inr (by simp)⟩
     ·exact af
    ·exact af
   ·rename_i id sz off n dy;split
    ·rename_i tt l hrow;refine aA (λhsz=>?_) (λ_=>af);simp only[Np,decide_eq_true_eq,beq_iff_eq]at hsz;obtain⟨hsz,rfl⟩:=hsz;split
     ·rename_i ys hys;intro r' hr';refine⟨_,hr',?_⟩;intro own g w a m u hle hm hd hall hfr hrep;rw[ho]at hrep;simp only[Op.operands,Call.operands,M9,Oi,QeO,UD,PE]at hrep;obtain⟨h1,h2⟩:=M5 hrep;refine yy hT hm hd ht rfl hte hsz ho (hle _ _ hrow) (ww hm hle hys h2) ?_;rcases oT (bh h1)with⟨hi,rfl,rfl,p,hv⟩ | ⟨b,cap,len,q,hi,h3,h4,h5,h6,hv⟩
      ·exact .inl ⟨.inr hi,rfl,rfl,p,hv⟩
      ·obtain⟨rfl,_,_⟩:=cV hm (hle _ _ hrow) hi;refine .inr ⟨b,q,_,cap,hi,hv,h3,?_⟩;rcases h5 with⟨h5,_⟩ | h5
       ·left;omega
       ·right;rw[h5,hsz]
     ·exact af
    ·exact af
   ·exact af
 ·exact af
end
set_option linter.unusedVariables false
set_option linter.unusedSimpArgs false
abbrev Vq(x:Nat×Nat×Nat):Nat×Nat×Nat×NS:=(x.1,x.2.1,x.2.2,[])
def Lh:List Pl→List Nat
 | []=>[]
 | some (b,c)::l=>b::(MO c.2.2++Lh l)
 | none::l=>Lh l
section
variable{F:Fam}{P:Program}
def MG(w:World)(Li:Nat→Prop)(ow:List Nat):Nat→List (ND F)→List Value→List Pl→Prop
 | _,[],[],LJ=>LJ = []
 | k,d::ds,v::vs,LJ=>
  if Mf k ow then match d with
   | .sl t l=>∃pl rest,LJ=pl::rest∧OG w Li t l pl∧T_ t pl v∧MG w Li ow (k+1) ds vs rest
   | _=>False
  else if Mf (k+1000) ow then match d with
   | .sl t l=>∃pl rest,LJ=pl::rest∧P8 w Li t l pl∧Ol pl v∧MG w Li ow (k+1) ds vs rest
   | _=>False
  else L_ w Li d v∧MG w Li ow (k+1) ds vs LJ
 | _,_,_,_=>False
def NH(w:World)(Li:Nat→Prop)(t:Ty)(ow:List Nat)(x:ET F t)(v:Value)(LJ:List Pl):Prop:=
 if t.OP then∃vs,v = .agg ⟨vs⟩∧MG w Li ow 0 (LZ F t x) vs LJ else MG w Li ow 0 (LZ F t x) [v] LJ
def Ua(w:World)(Li:Nat→Prop)(t:Ty)(ow:List Nat)(x:ET F t)(b:Nat)(LJ:List Pl):Prop:=
 ∃arr e,w.heap[b]? = some (.cells ⟨arr⟩ e (0,0))∧MG w Li ow 0 (LZ F t x) arr LJ
def YS:Bool→Pl→Value→Prop
 | false,pl,v=>Ol pl v
 | true,pl,v=>∃b c,pl=some (b,c)∧v = .pointer (some ⟨b,0,none⟩)
def YR(t:Ty)(arr:Bool)(pl:Pl)(v:Value):Prop:=if t.Ny=true then∃b,pl=some (b,0,0,[])∧v = .map (some b)else YS arr pl v
def PkV(w:World)(Li:Nat→Prop)(k:Nat)(ds:List (ND F))(v:Value):Prop:=
 ∃(b1 b2:Nat)(y:Value),v = .pointer (some ⟨b1,0,none⟩)∧Li b1∧Li b2∧w.cell? ⟨b1,0,none⟩=some (.pointer (some ⟨b2,0,none⟩))∧w.cell? ⟨b2,k,none⟩=some y∧Pt w Li (ds,false) y
theorem PkV.lift{w w':World}{Li LX:Nat→Prop}(hw:∀b,Li b→LX b∧w'.heap[b]? = w.heap[b]?){k:Nat}{ds:List (ND F)}{v:Value}(h:PkV w Li k ds v):PkV w' LX k ds v:=by
 obtain⟨b1,b2,y,rfl,h1,h2,h3,h4,h5⟩:=h
 exact⟨b1,b2,y,rfl,(hw _ h1).1,(hw _ h2).1,by rw[Nh (hw _ h1).2];exact h3,by rw[Nh (hw _ h2).2];exact h4,h5.mono (λb hb=>(hw b hb).1) (λb hb=>(hw b hb).2)⟩
def Held(P:Program)(w:World)(Li:Nat→Prop):(k:Kd)→k.El F→Value→List Pl→List Pl→Prop
 | .v t ow,x,v,LJ,Me=>NH w Li t ow x v LJ∧Me = []
 | .box t ow,x,v,LJ,Me=>∃(bx:Nat×Nat×Nat)(rest:List Pl),Me = [some (Vq bx)]∧LJ=some (Vq bx)::rest∧v = .pointer (some ⟨bx.1,0,none⟩)∧Ua w Li t ow x bx.1 rest
 | .rp t,x,v,LJ,Me=>LJ = []∧Me = []∧Mh (F:=F) ⟨λ_=>none,Li,λ_=>False⟩ w (.pt (LZ F t x) 0) v
 | .fn ks r,φ,v,LJ,Me=>LJ = []∧Me = []∧Vg P F w Li ks r φ v
 | .row t arr,x,v,LJ,Me=>∃pl,Me = [pl]∧LJ = [pl]∧OG w Li t x pl∧YR t arr pl v
 | .TD t,x,v,LJ,Me=>LJ = []∧Me = []∧Mh (F:=F) ⟨λ_=>none,Li,λ_=>False⟩ w (.Uz (LZ F t x)) v
 | .pk k t,x,v,LJ,Me=>LJ = []∧Me = []∧PkV w Li k (LZ F t x) v
 | .ln t,x,v,LJ,Me=>LJ = []∧Me = []∧∃I:Nat→Prop,(∀b,I b→b<w.heap.size)∧NH w I t [] x v []
 | .nb t ow,x,v,LJ,Me=>∃(bx:Nat×Nat×Nat)(rest:List Pl),Me = []∧LJ=some (Vq bx)::rest∧v = .pointer (some ⟨bx.1,0,none⟩)∧Ua w Li t ow x bx.1 rest
 | .cl _ _,_,_,_,_=>False
def db(P:Program)(w:World)(Li:Nat→Prop):(ks:List Kd)→HL F ks→List Value→List Pl→List Pl→Prop
 | [],_,vs,LJ,Me=>vs = []∧LJ = []∧Me = []
 | .cl f n::ks,a,vs,LJ,Me=>∃us vs',vs = .func (.func f) ⟨[]⟩ ⟨us⟩::vs'∧us.length=n∧db P w Li ks a.2 (us++vs') LJ Me
 | k::ks,a,vs,LJ,Me=>∃v vs' p1 p2 b1 b2,vs=v::vs'∧LJ=p1++p2∧Me=b1++b2∧Held P w Li k a.1 v p1 b1∧db P w Li ks a.2 vs' p2 b2
theorem pd{w:World}{Li:Nat→Prop}{k:Kd}{ks:List Kd}{a:HL F (k::ks)}{vs:List Value}{LJ Me:List Pl}(hk:k.Ur=false)(h:db P w Li (k::ks) a vs LJ Me) :
  ∃v vs' p1 p2 b1 b2,vs=v::vs'∧LJ=p1++p2∧Me=b1++b2∧Held P w Li k a.1 v p1 b1∧db P w Li ks a.2 vs' p2 b2:=by
 cases k with
 | cl f n=>cases hk
 | _=>exact h
theorem tk{w:World}{Li:Nat→Prop}{k:Kd}{ks:List Kd}{a:HL F (k::ks)}{vs:List Value}{LJ Me:List Pl}(hk:k.Ur=false)
  (h:∃v vs' p1 p2 b1 b2,vs=v::vs'∧LJ=p1++p2∧Me=b1++b2∧Held P w Li k a.1 v p1 b1∧db P w Li ks a.2 vs' p2 b2):db P w Li (k::ks) a vs LJ Me:=by
 cases k with
 | cl f n=>cases hk
 | _=>exact h
def eE(P:Program)(w:World)(Li:Nat→Prop):(ks:List Kd)→TL F ks→List Value→List Pl→List Pl→Prop
 | [],_,vs,Me,LJ=>vs = []∧Me = []∧LJ = []
 | [.box t ow],x,vs,Me,LJ=>∃bx:Nat×Nat×Nat,vs = []∧Me = [some (Vq bx)]∧Ua w Li t (oo ow) x bx.1 LJ
 | .box t ow::l::ks,a,vs,Me,LJ=>∃(bx:Nat×Nat×Nat)(Rz:List Pl)(p1 p2:List Pl),Me=some (Vq bx)::Rz∧LJ=p1++p2∧Ua w Li t (oo ow) a.1 bx.1 p1∧eE P w Li (l::ks) a.2 vs Rz p2
 | [.row t _],x,vs,Me,LJ=>∃pl,vs = []∧Me = [pl]∧OG w Li t x pl∧LJ = []
 | .row t _::l::ks,a,vs,Me,LJ=>∃(pl:Pl)(Rz:List Pl),Me=pl::Rz∧OG w Li t a.1 pl∧eE P w Li (l::ks) a.2 vs Rz LJ
 | [k],x,vs,Me,LJ=>∃v,vs = [v]∧Me = []∧Held P w Li k x v LJ []
 | k::l::ks,a,vs,Me,LJ=>∃v vs' p1 p2,vs=v::vs'∧LJ=p1++p2∧Held P w Li k a.1 v p1 []∧eE P w Li (l::ks) a.2 vs' Me p2
structure Sw(w:World)(Li:Nat→Prop)(bs:List Nat):Prop where
 nodup:bs.Nodup
 Li:∀b∈bs,¬ Li b
 lt:∀b∈bs,b<w.heap.size
def U6:List Value→Value
 | [v]=>v
 | vs=>.tuple ⟨vs⟩
def outs(sp:Spec F):List Kd:=sp.rs++sp.ks.filter Kd.Ni
def O6(P:Program)(f:FuncId)(sp:Spec F):Prop:=
 jo P f∧∀(a:HL F sp.ks)(r:TL F (outs sp)),sp.D a=some r→∀(Li:Nat→Prop)(w:World)(vs:List Value)(LJ:List Pl) (Me:List Pl),
  db P w Li sp.ks a vs LJ Me→Sw w Li (Lh LJ)→(∀b,Li b→b<w.heap.size)→
  Calls P f ⟨vs⟩ w λe w'=>∃(Ru:List Value)(LX:Nat→Prop)(Mk:List Pl),e = .returned (U6 Ru)∧
   w'.os=w.os∧w'.tape=w.tape∧w'.output=w.output∧w.drawn≤w'.drawn∧w.heap.size≤w'.heap.size∧(∀b,b<w.heap.size→b∉Lh LJ→w'.heap[b]? = w.heap[b]?)∧
   (∀b,Li b→LX b)∧(∀b,LX b→Li b∨b∈Lh LJ∨w.heap.size≤b)∧(∀b,LX b→b<w'.heap.size)∧
   eE P w' LX (outs sp) r Ru Me Mk∧Sw w' LX (Lh Me++Lh Mk)∧∀b∈Lh Me++Lh Mk,b∈Lh LJ∨w.heap.size≤b
def Mi(g:G):Option Nat→Pl
 | some i=>(g.ids i).getD none
 | none=>none
theorem MG.le{w:World}{Li LX:Nat→Prop}(hi:∀b,Li b→LX b){ow:List Nat}:∀{ds:List (ND F)} {k:Nat} {vs:List Value} {LJ:List Pl},MG w Li ow k ds vs LJ→MG w LX ow k ds vs LJ
 | [],k,vs,LJ,h=>by cases vs<;>simp_all [MG]
 | d::ds,k,vs,LJ,h=>by
  cases vs with
  | nil=>simp[MG]at h
  | cons v vs=>
   simp only[MG]at h ⊢;split
   ·rename_i hk;rw[if_pos hk]at h;split at h
    ·obtain⟨pl,rest,h1,h2,h3,h4⟩:=h;exact⟨pl,rest,h1,h2.O_ hi (λ_ _=>rfl) (λ_ _ _=>rfl),h3,h4.le hi⟩
    ·exact h.elim
   ·rename_i hk;rw[if_neg hk]at h;split
    ·rename_i hk2;rw[if_pos hk2]at h;split at h
     ·obtain⟨pl,rest,h1,h2,h3,h4⟩:=h;exact⟨pl,rest,h1,h2.O_ hi (λ_ _=>rfl) (λ_ _ _ _ _=>rfl),h3,h4.le hi⟩
     ·exact h.elim
    ·rename_i hk2;rw[if_neg hk2]at h;exact⟨h.1.mono hi (λ_ _=>rfl),h.2.le hi⟩
section
variable{own:Ow}{g:G}{w:World}{m mm:Nat→Option (Mg F)}
theorem B6(hm:LQ own g w m){id:Nat}{t:Ty}{l:List (ET F t)}(h:m id=some (.row t l)):da w g.Li t l (Mi g (some id)):=by
 rcases hm.ok id _ h with⟨h1,h2⟩ | ⟨b,cap,cur,e,k1,k2,k3,k4,k5,k6⟩
 ·simp[Mi,h1,da,h2]
 ·have:Mi g (some id)=some (b,cap,l.length,[]):=by simp[Mi,k1]
  rw[this];exact⟨rfl,k3,k4,cur,e,k2,k5,k6⟩
theorem rC(hm:LQ own g w m){id:Nat}{t:Ty}{l:List (ET F t)}(h:m id=some (.mp t l)):∃b,Mi g (some id)=some (b,0,0,[])∧g.ids id=some (some (b,0,0,[]))∧MapAt w g.Li t l b:=by
 obtain⟨b,h1,h2⟩:=hm.ok id _ h
 exact⟨b,by simp[Mi,h1],h1,h2⟩
theorem rE{id:Nat}{v:Value}(h:Mh (F:=F) g w (.Sy id) v):∃b c,g.ids id=some (some (b,c))∧v = .map (some b):=by
 cases h with | Sy h=>exact⟨_,_,h,rfl⟩
theorem Bt(hm:LQ own g w m)(hle:P6 mm m){x:MJ F}{d:ND F}{o:Option Nat}(h:sZ mm x=some (d,o)){d':ND F}(hd:U5 d d')(hnn:d'≠.nl){v:Value}(hv:Mh g w x v) :
  ∃t l,d' = .sl t l∧OG w g.Li t l (Mi g o)∧T_ t (Mi g o) v:=by
 unfold sZ at h;split at h
 ·rename_i id;split at h
  ·rename_i t l hrow
   cases ht:t.Ny with
   | true=>rw[ht]at h;cases h
   | false=>
    rw[ht]at h;cases h
    cases hd with
    | refl=>
     refine⟨t,l,rfl,by rw[nj ht];exact B6 hm (hle _ _ hrow),?_⟩
     rw[pD ht];rcases bu hv with⟨hi,p,rfl⟩ | ⟨b,c,n,hi,h1,h2,rfl⟩
     ·simp[Mi,hi,Ol]
     ·simp[Mi,hi,Ol]
  ·cases h
 ·rename_i id;split at h
  ·rename_i t l hrow
   cases ht:t.Ny with
   | false=>rw[ht]at h;cases h
   | true=>
    rw[ht]at h;cases h
    cases hd with
    | refl=>
     obtain⟨b,k1,k2,k3⟩:=rC hm (hle _ _ hrow);obtain⟨b',c',k4,rfl⟩:=rE hv;rw[k2]at k4;cases k4;refine⟨t,l,rfl,?_,?_⟩
     ·unfold OG;rw[if_pos ht];exact⟨b,k1,k3⟩
     ·unfold T_;rw[if_pos ht];exact⟨b,k1,rfl⟩
  ·cases h
 ·cases h
  cases hd with
  | refl=>exact absurd rfl hnn
  | nl t ht=>
   obtain⟨p,rfl⟩:=pw (P:=default) (.c hv)
   exact⟨t,[],rfl,by rw[nj ht];rfl,by rw[pD ht];exact⟨p,rfl⟩⟩
 ·cases h
theorem zh(hm:LQ own g w m)(hle:P6 mm m){x:MJ F}{d:ND F}{o:Option Nat}(h:ro mm x=some (d,o)){d':ND F}(hd:U5 d d')(hnn:d'≠.nl){v:Value}(hv:Mh g w x v) :
  ∃t l,d' = .sl t l∧P8 w g.Li t l (Mi g o)∧Ol (Mi g o) v:=by
 unfold ro at h;split at h
 ·rename_i id;have hv:=vE hm hle hv;simp only[WC]at hv;unfold xo at h;split at h
  ·rename_i t l hrow;cases h
   cases hd with
   | refl=>
    obtain⟨pl,k1,k2,k3⟩:=sw hm (hle _ _ hrow) hv
    have e:Mi g (some (U7 mm id))=pl:=by simp[Mi,k1]
    rw[e];exact⟨t,l,rfl,k2,k3⟩
  ·cases h
 ·cases h
  cases hd with
  | refl=>exact absurd rfl hnn
  | nl t _=>obtain⟨p,rfl⟩:=pw (P:=default) (.c hv);exact⟨t,[],rfl,rfl,p,rfl⟩
 ·cases h
theorem re{ow:List Nat}{k:Nat}{x:MJ F}{r:List (MJ F)}{ds:List (ND F)}{os:List (Option Nat)}{fz:List Nat}(h:gV mm ow k (x::r)=some (ds,os,fz)) :
  (Mf k ow=true∧∃d o ds' os',sZ mm x=some (d,o)∧gV mm ow (k+1) r=some (ds',os',fz)∧ds=d::ds'∧os=o::os')∨
  (Mf k ow=false∧Mf (k+1000) ow=true∧∃d o ds' os',ro mm x=some (d,o)∧gV mm ow (k+1) r=some (ds',os',fz)∧ds=d::ds'∧os=o::os')∨
  (Mf k ow=false∧Mf (k+1000) ow=false∧∃d i ds' Ym,Sl mm x=some (d,i)∧gV mm ow (k+1) r=some (ds',os,Ym)∧ds=d::ds'∧fz=i++Ym):=by
 simp only[gV]at h;split at h
 ·rename_i hk;split at h
  ·cases h
  ·rename_i d o hd;split at h
   ·cases h
   ·rename_i ds' os' Ym hr;cases h;exact .inl ⟨hk,d,o,ds',os',hd,hr,rfl,rfl⟩
 ·rename_i hk;split at h
  ·rename_i hk2;split at h
   ·cases h
   ·rename_i d o hd;split at h
    ·cases h
    ·rename_i ds' os' Ym hr;cases h
     exact .inr (.inl ⟨by simpa using hk,hk2,d,o,ds',os',hd,hr,rfl,rfl⟩)
  ·rename_i hk2;split at h
   ·cases h
   ·rename_i d i hd;split at h
    ·cases h
    ·rename_i ds' os' Ym hr;cases h
     exact .inr (.inr ⟨by simpa using hk,by simpa using hk2,d,i,ds',Ym,hd,hr,rfl,rfl⟩)
theorem pj{ow:List Nat}:∀{cs:List (MJ F)} {k:Nat} {ds:List (ND F)} {os:List (Option Nat)} {fz:List Nat},gV mm ow k cs=some (ds,os,fz)→∀id∈fz,ZO mm id
 | [],k,ds,os,fz,h=>by simp only[gV,NJ]at h;cases h;simp
 | x::r,k,ds,os,fz,h=>by
  rcases re h with⟨_,d,o,ds',os',h1,h2,rfl,rfl⟩ | ⟨_,_,d,o,ds',os',h1,h2,rfl,rfl⟩ | ⟨_,_,d,i,ds',Ym,h1,h2,rfl,rfl⟩
  ·exact pj h2
  ·exact pj h2
  ·intro id hid;rcases OB.1 hid with hid | hid
   ·exact yE h1 id hid
   ·exact pj h2 id hid
theorem po{ow:List Nat}:∀{cs:List (MJ F)} {k:Nat} {ds:List (ND F)} {os:List (Option Nat)} {fz:List Nat},gV mm ow k cs=some (ds,os,fz)→∀id,some id∈os→∃B,mm id=some B∧B.owned=true
 | [],k,ds,os,fz,h=>by simp only[gV,NJ]at h;cases h;simp
 | x::r,k,ds,os,fz,h=>by
  rcases re h with⟨_,d,o,ds',os',h1,h2,rfl,rfl⟩ | ⟨_,_,d,o,ds',os',h1,h2,rfl,rfl⟩ | ⟨_,_,d,i,ds',Ym,h1,h2,rfl,rfl⟩
  ·intro id hid;rcases Nz.1 hid with rfl | hid
   ·unfold sZ at h1;split at h1
    ·split at h1
     ·rename_i t l hrow
      cases ht:t.Ny with
      | true=>rw[ht]at h1;cases h1
      | false=>rw[ht]at h1;cases h1;exact⟨_,hrow,rfl⟩
     ·cases h1
    ·split at h1
     ·rename_i t l hrow
      cases ht:t.Ny with
      | false=>rw[ht]at h1;cases h1
      | true=>rw[ht]at h1;cases h1;exact⟨_,hrow,rfl⟩
     ·cases h1
    ·cases h1
    ·cases h1
   ·exact po h2 id hid
  ·intro id hid;rcases Nz.1 hid with rfl | hid
   ·unfold ro at h1;split at h1
    ·unfold xo at h1;split at h1
     ·rename_i hrow;cases h1;exact⟨_,hrow,rfl⟩
     ·cases h1
    ·cases h1
    ·cases h1
   ·exact po h2 id hid
  ·exact po h2
theorem lT(hm:LQ own g w m)(hle:P6 mm m){ow:List Nat}{LX:Nat→Prop}(hi:∀b,g.Li b→LX b):∀{cs:List (MJ F)} {k:Nat} {ds ds':List (ND F)} {os:List (Option Nat)} {fz:List Nat},gV mm ow k cs=some (ds,os,fz)→Tk ds ds'→(∀d∈ds',d≠.nl)→
  (∀id∈fz,∀b,g.blk id b→LX b)→∀{vs:List Value},vs.length=cs.length→(∀(k:Nat)(x:MJ F)(v:Value),cs[k]? = some x→vs[k]? = some v→Mh g w x v)→MG w LX ow k ds' vs (os.map (Mi g))
 | [],k,ds,ds',os,fz,h,hl,ho,hf,vs,hv,hr=>by simp only[gV,NJ]at h;cases h;have h1:ds' = []:=Ui hl.1.symm;have h2:vs = []:=Ui hv;subst h1 h2;rfl
 | x::r,k,ds,ds',os,fz,h,hl,ho,hf,vs,hv,hr=>by
  match vs,hv with
  | v::vs,hv=>
   have hx:=hr 0 x v rfl rfl;have hr':∀(k:Nat)(x:MJ F)(v:Value),r[k]? = some x→vs[k]? = some v→Mh g w x v:=λk x v a b=>hr (k+1) x v a b;rcases re h with⟨hk,d,o,ds0,os',h1,h2,rfl,rfl⟩ | ⟨hk,hk2,d,o,ds0,os',h1,h2,rfl,rfl⟩ | ⟨hk,hk2,d,i,ds0,Ym,h1,h2,rfl,rfl⟩
   ·match ds',hl with
    | d'::ds',hl=>
     have hd:U5 d d':=hl.2 0 d d' rfl rfl
     have hl':Tk ds0 ds':=⟨by simpa using hl.1,λk a b h1 h2=>hl.2 (k+1) a b h1 h2⟩
     obtain⟨t,l,rfl,h3,h4⟩:=Bt hm hle h1 hd (ho _ (by simp)) hx
     simp only[MG,hk,if_true,M9]
     exact⟨_,_,rfl,h3.O_ hi (λ_ _=>rfl) (λ_ _ _=>rfl),h4,lT hm hle hi h2 hl' (λd hd=>ho d (by simp[hd])) hf (by simpa using hv) hr'⟩
    | [],hl=>exact absurd hl.1 (by simp)
   ·match ds',hl with
    | d'::ds',hl=>
     have hd:U5 d d':=hl.2 0 d d' rfl rfl
     have hl':Tk ds0 ds':=⟨by simpa using hl.1,λk a b h1 h2=>hl.2 (k+1) a b h1 h2⟩
     obtain⟨t,l,rfl,h3,h4⟩:=zh hm hle h1 hd (ho _ (by simp)) hx
     simp only[MG,hk,hk2,RZ,if_false,if_true,M9]
     exact⟨_,_,rfl,h3.O_ hi (λ_ _=>rfl) (λ_ _ _ _ _=>rfl),h4,lT hm hle hi h2 hl' (λd hd=>ho d (by simp[hd])) hf (by simpa using hv) hr'⟩
    | [],hl=>exact absurd hl.1 (by simp)
   ·match ds',hl with
    | d'::ds',hl=>
     have hd:U5 d d':=hl.2 0 d d' rfl rfl
     have hl':Tk ds0 ds':=⟨by simpa using hl.1,λk a b h1 h2=>hl.2 (k+1) a b h1 h2⟩
     simp only[MG,hk,hk2,RZ,if_false]
     refine⟨?_,lT hm hle hi h2 hl' (λd hd=>ho d (by simp[hd])) (λid hid=>hf id (by simp[hid])) (by simpa using hv) hr'⟩
     exact(z5 hm hle h1 (g1:=⟨g.ids,LX,g.len⟩) ⟨λ_ _ h=>h,hi,λ_ _=>rfl,λ_ h=>h,λ_ _=>rfl⟩ (λid hid=>hf id (by simp[hid])) hx).Xu hd
    | [],hl=>exact absurd hl.1 (by simp)
end
end
set_option linter.unusedVariables false
set_option linter.unusedSimpArgs false
section
variable{F:Fam}{P:Program}{own:Ow}{g:G}{w:World}{m mm:Nat→Option (Mg F)}
structure TH(g:G)(ids:List Nat)(im:Nat→Prop):Prop where
 Li:∀b,g.Li b→im b
 fz:∀id∈ids,∀b,g.blk id b→im b
theorem TH.sub{fz Ym:List Nat}{Li:Nat→Prop}(h:TH g fz Li)(hs:∀id∈Ym,id∈fz):TH g Ym Li:=⟨h.Li,λid hid=>h.fz id (hs id hid)⟩
theorem rV(hm:LQ own g w m)(hle:P6 mm m){t:Ty}{ow:List Nat}{d:Dat F}{p:Pk (ET F t)}(h:VO mm t ow d=some p){Li:Nat→Prop}(hi:TH g p.fz Li){v:Value}(hr:Ma P g w d v) :
  NH w Li t ow p.x v (p.os.map (Mi g))∧p.bx = []∧(∀id∈p.fz,ZO mm id)∧(∀id,some id∈p.os→∃B,mm id=some B∧B.owned=true):=by
 unfold VO at h;split at h
 ·cases h
 ·rename_i cs hcs;split at h
  ·cases h
  ·rename_i ds os fz hds;split at h
   ·cases h
   ·rename_i x hx;cases h;refine⟨?_,rfl,pj hds,λid hid=>?_⟩
    ·have TM:=cA F hx;have hnn:=rt hx;unfold zY at hcs;split at hcs
     ·rename_i y;split at hcs
      ·cases hcs
      ·rename_i hst;cases hcs;unfold NH;rw[if_neg hst];refine lT hm hle hi.Li hds TM hnn hi.fz rfl ?_;intro k c u h1 h2
       cases k with
       | zero=>simp only[PW,NJ]at h1 h2;subst h1 h2;exact bh hr
       | succ k=>simp at h1
     ·rename_i cs';split at hcs
      ·rename_i hst;cases hcs;unfold NH;rw[if_pos hst];obtain⟨vs,rfl,hl,hrr⟩:=oI hr;exact⟨vs,rfl,lT hm hle hi.Li hds TM hnn hi.fz hl hrr⟩
      ·cases hcs
     ·cases hcs
    ·exact po hds id hid
theorem nV(hm:LQ own g w m)(hle:P6 mm m){t:Ty}{ow:List Nat}{d:Dat F}{p:Pk (ET F t)}(h:nE mm t ow d=some p){Li:Nat→Prop}(hi:TH g p.fz Li){v:Value}(hr:Ma P g w d v) :
  ∃(id:Nat)(bx:Nat×Nat×Nat)(os:List (Option Nat)),p.os=some id::os∧p.bx = [id]∧d = .c (.ptr id 0)∧g.ids id=some (some (Vq bx))∧v = .pointer (some ⟨bx.1,0,none⟩)∧Ua w Li t ow p.x bx.1 (os.map (Mi g))∧
   (∀id∈p.fz,ZO mm id)∧(∀id,some id∈p.os→∃B,mm id=some B∧B.owned=true):=by
 unfold nE at h;split at h
 ·rename_i id;split at h
  ·rename_i cs Pj;split at h
   ·cases h
   ·rename_i ds os fz hds;split at h
    ·cases h
    ·rename_i x hx;cases h;obtain⟨b,cn,hid,rfl⟩:=bW hr;obtain⟨b',Vu,arr,e,k1,k2,k3,k4⟩:=hm.ok id _ (hle _ _ Pj);rw[k1]at hid;cases hid;refine⟨id,(b,Vu),os,rfl,rfl,rfl,k1,rfl,⟨arr,e,k2,lT hm hle hi.Li hds (cA F hx) (rt hx) hi.fz k3 k4⟩,pj hds,λid' NY=>?_⟩;rcases Nz.1 NY with h1 | h1
     ·cases h1;exact⟨_,Pj,rfl⟩
     ·exact po hds id' h1
  ·cases h
 ·cases h
theorem ke{t:Ty}{l:List (ET F t)}:(S_ t l).owned=true:=by
 unfold S_;cases t.Ny<;>rfl
theorem uJ(hm:LQ own g w m)(hle:P6 mm m){t:Ty}{id:Nat}{p:Pk (List (ET F t))}(h:rr mm t id=some p) :
  p.os = [some id]∧p.bx = [id]∧p.fz = []∧OG w g.Li t p.x (Mi g (some id))∧∃l:List (ET F t),mm id=some (S_ t l):=by
 unfold rr at h;split at h
 ·rename_i t' l hrow;split at h
  ·rename_i e;subst e
   cases ht:t'.Ny with
   | true=>rw[ht]at h;cases h
   | false=>
    rw[ht]at h;cases h
    exact⟨rfl,rfl,rfl,by rw[nj ht];exact B6 hm (hle _ _ hrow),l,by unfold S_;rw[ht];exact hrow⟩
  ·cases h
 ·rename_i t' l hrow;split at h
  ·rename_i e;subst e
   cases ht:t'.Ny with
   | false=>rw[ht]at h;cases h
   | true=>
    rw[ht]at h;cases h;obtain⟨b,k1,k2,k3⟩:=rC hm (hle _ _ hrow)
    exact⟨rfl,rfl,rfl,by unfold OG;rw[if_pos ht];exact⟨b,k1,k3⟩,l,by unfold S_;rw[ht];exact hrow⟩
  ·cases h
 ·cases h
theorem OG.le{Li LX:Nat→Prop}(hi:∀b,Li b→LX b){t:Ty}{l:List (ET F t)}{pl:Pl}(h:OG w Li t l pl):OG w LX t l pl:=h.O_ hi (λ_ _=>rfl) (λ_ _ _=>rfl)
theorem da.le{Li LX:Nat→Prop}(hi:∀b,Li b→LX b){t:Ty}{l:List (ET F t)}{pl:Pl}(h:da w Li t l pl):da w LX t l pl:=h.O_ hi (λ_ _=>rfl) (λ_ _ _=>rfl)
theorem ta{t:Ty}{arr:Bool}{d:Dat F}{id:Nat}(h:vY t arr d=some id):d=Pf t arr id:=by
 unfold vY at h;split at h
 ·cases ht:t.Ny with
  | true=>rw[ht]at h;cases h
  | false=>
   rw[ht]at h;simp only[cond_false]at h;split at h
   ·rename_i ha;cases h;subst ha;unfold Pf;rw[ht];rfl
   ·cases h
 ·cases ht:t.Ny with
  | true=>rw[ht]at h;cases h
  | false=>
   rw[ht]at h;simp only[cond_false]at h;split at h
   ·cases h
   ·rename_i ha;cases h;unfold Pf;rw[ht];simp[ha]
 ·cases ht:t.Ny with
  | false=>rw[ht]at h;cases h
  | true=>rw[ht]at h;cases h;unfold Pf;rw[ht];rfl
 ·cases h
theorem ye{t:Ty}{arr:Bool}{id:Nat}{v:Value}(hr:Ma (F:=F) P g w (Pf t arr id) v):(∃pl,g.ids id=some pl)∧(t.Ny=false→YS arr (Mi g (some id)) v)∧(t.Ny=true→∃b c,g.ids id=some (some (b,c))∧v = .map (some b)):=by
 unfold Pf at hr
 cases ht:t.Ny with
 | true=>
  rw[ht]at hr;obtain⟨b,c,hi,rfl⟩:=rE (bh hr)
  exact⟨⟨_,hi⟩,λe=>(by cases e),λ_=>⟨b,c,hi,rfl⟩⟩
 | false=>
  rw[ht]at hr
  cases arr with
  | true=>
   obtain⟨b,c,hi,rfl⟩:=bW hr
   exact⟨⟨_,hi⟩,λ_=>⟨b,c,by simp[Mi,hi],rfl⟩,λe=>(by cases e)⟩
  | false=>
   rcases bu (bh hr)with⟨hi,p,rfl⟩ | ⟨b,c,n,hi,h1,h2,rfl⟩
   ·exact⟨⟨_,hi⟩,λ_=>by simp[YS,Mi,hi,Ol],λe=>(by cases e)⟩
   ·exact⟨⟨_,hi⟩,λ_=>by simp[YS,Mi,hi,Ol],λe=>(by cases e)⟩
theorem sN(hm:LQ own g w m)(hle:P6 mm m){t:Ty}{arr:Bool}{d:Dat F}{p:Pk (List (ET F t))}(h:wO mm t arr d=some p){Li:Nat→Prop}(hi:∀b,g.Li b→Li b){v:Value}(hr:Ma P g w d v) :
  ∃id pl,p.os = [some id]∧p.bx = [id]∧p.fz = []∧d=Pf t arr id∧g.ids id=some pl∧OG w Li t p.x pl∧YR t arr pl v∧∃l:List (ET F t),mm id=some (S_ t l):=by
 unfold wO at h;split at h
 ·rename_i id hn;have hd:=ta hn;subst hd;obtain⟨h1,h2,h3,h4,h5⟩:=uJ hm hle h;obtain⟨⟨pl,k1⟩,k2,k3⟩:=ye hr
  have e:Mi g (some id)=pl:=by simp[Mi,k1]
  rw[e]at h4 k2;refine⟨id,pl,h1,h2,h3,rfl,k1,h4.le hi,?_,h5⟩;unfold YR
  cases ht:t.Ny with
  | true=>rw[if_pos rfl];obtain⟨b,c,k4,rfl⟩:=k3 ht;unfold OG at h4;rw[if_pos ht]at h4;obtain⟨b',k5,_⟩:=h4;rw[k1,k5]at k4;cases k4;exact⟨_,k5,rfl⟩
  | false=>rw[if_neg (by simp)];exact k2 ht
 ·cases h
theorem Ae{Li:Nat→Prop}{cs ds:List (ND F)}(hl:Tk cs ds){b o:Nat}(hb:Li b)(h:∀k d,cs[k]? = some d→∃x,w.cell? ⟨b,o+k,none⟩=some x∧L_ w Li d x) :
  Mh (F:=F) ⟨λ_=>none,Li,λ_=>False⟩ w (.pt ds 0) (.pointer (some ⟨b,o,none⟩)):=by
 have key:∀k d,ds[k]? = some d→∃x,w.cell? ⟨b,o+k,none⟩=some x∧L_ w Li d x:=by
  intro k d hk
  have hlt:k<cs.length:=by rw[hl.1];exact(K_.1 hk).1
  obtain⟨x,h1,h2⟩:=h k _ (K9 hlt);exact⟨x,h1,h2.Xu (hl.2 k _ d (K9 hlt) hk)⟩
 have:=Mh.pt (F:=F) (g:=⟨λ_=>none,Li,λ_=>False⟩) (w:=w) ds 0 b o (λk=>(w.cell? ⟨b,o+k,none⟩).getD undef) hb
  (λk d hk=>by obtain⟨x,h1,h2⟩:=key k d hk;rw[h1];rfl) (λk d hk=>by obtain⟨x,h1,h2⟩:=key k d hk;rw[h1];exact h2)
 exact this
theorem uW(hm:LQ own g w m)(hle:P6 mm m){t:Ty}{d:Dat F}{p:Pk (ET F t)}(h:we mm t d=some p){Li:Nat→Prop}(hi:TH g p.fz Li){v:Value}(hr:Ma P g w d v) :
  Mh (F:=F) ⟨λ_=>none,Li,λ_=>False⟩ w (.pt (LZ F t p.x) 0) v∧p.os = []∧p.bx = []∧R4 mm p.fz:=by
 unfold we at h;split at h
 ·split at h
  ·rename_i cs x hx;cases h;obtain⟨b,o,f,hb,rfl,hc,hrr⟩:=rz hr
   exact⟨Ae (cA F hx) (hi.Li b hb) (λk d hk=>⟨_,hc k d hk,(hrr k d hk).mono hi.Li (λ_ _=>rfl)⟩),rfl,rfl,λid hid=>by simp at hid⟩
  ·cases h
 ·rename_i id;split at h
  ·rename_i cs Pj;split at h
   ·cases h
   ·rename_i ds fz hds;split at h
    ·cases h
    ·rename_i x hx;cases h;obtain⟨b,cn,hid,rfl⟩:=bW hr;obtain⟨b',Vu,arr,e,k1,k2,k3,k4⟩:=hm.ok id _ (hle _ _ Pj);rw[k1]at hid;cases hid
     refine⟨Ae (cA F hx) (hi.fz id (by simp) b (G.MH k1)) ?_,rfl,rfl,?_⟩
     ·intro k d hk
      have hlt:k<arr.length:=by rw[k3,← iz hds];exact(K_.1 hk).1
      refine⟨arr[k],by simp[World.cell?,k2,hlt],?_⟩
      exact jJ hm hle hds (g1:=⟨g.ids,Li,g.len⟩) ⟨λ_ _ h=>h,hi.Li,λ_ _=>rfl,λ_ h=>h,λ_ _=>rfl⟩ (λid' NY b' hb'=>hi.fz id' (by simp[NY]) b' hb') arr k4 k d _ hk (K9 hlt)
     ·intro id' NY;rcases Nz.1 NY with rfl | NY
      ·exact .inr (.inl ⟨cs,ds,fz,Pj,hds,λx hx=>by simp[hx]⟩)
      ·exact .inl (oy hds id' NY)
  ·rename_i cs Pj;split at h
   ·rename_i x hx;cases h;obtain⟨b,cn,hid,rfl⟩:=bW hr;obtain⟨b',Vu,k1,k2,k3⟩:=hm.ok id _ (hle _ _ Pj);rw[k1]at hid;cases hid
    refine⟨Ae (cA F hx) (hi.Li b k2) ?_,rfl,rfl,λid hid=>by simp at hid⟩
    intro k d hk;obtain⟨y,q1,q2⟩:=k3 k d hk
    exact⟨y,by rw[OW];exact q1,q2.mono hi.Li (λ_ _=>rfl)⟩
   ·cases h
  ·cases h
 ·cases h
theorem Ca{Li:Nat→Prop}{cs ds:List (ND F)}(hl:Tk cs ds){b o b2 o2:Nat}(hb:Li b)(hv:w.cell? ⟨b,o,none⟩=some (.pointer (some ⟨b2,o2,none⟩)))(hb2:Li b2)(h:∀k d,cs[k]? = some d→∃x,w.cell? ⟨b2,o2+k,none⟩=some x∧L_ w Li d x) :
  Mh (F:=F) ⟨λ_=>none,Li,λ_=>False⟩ w (.Uz ds) (.pointer (some ⟨b,o,none⟩)):=by
 have key:∀k d,ds[k]? = some d→∃x,w.cell? ⟨b2,o2+k,none⟩=some x∧L_ w Li d x:=by
  intro k d hk
  have hlt:k<cs.length:=by rw[hl.1];exact(K_.1 hk).1
  obtain⟨x,h1,h2⟩:=h k _ (K9 hlt);exact⟨x,h1,h2.Xu (hl.2 k _ d (K9 hlt) hk)⟩
 exact Mh.Uz (F:=F) (g:=⟨λ_=>none,Li,λ_=>False⟩) (w:=w) ds b o b2 o2 (λk=>(w.cell? ⟨b2,o2+k,none⟩).getD undef) hb hv hb2
  (λk d hk=>by obtain⟨x,h1,h2⟩:=key k d hk;rw[h1];rfl) (λk d hk=>by obtain⟨x,h1,h2⟩:=key k d hk;rw[h1];exact h2)
theorem uH(hm:LQ own g w m)(hle:P6 mm m){k:Nat}{t:Ty}{d:Dat F}{p:Pk (ET F t)}(h:v5 mm k t d=some p){Li:Nat→Prop}(hi:TH g p.fz Li){v:Value}(hr:Ma P g w d v) :
  PkV w Li k (LZ F t p.x) v∧p.os = []∧p.bx = []∧R4 mm p.fz:=by
 unfold v5 at h;split at h
 ·rename_i id;split at h
  ·rename_i id2 Tg;split at h
   ·rename_i cs Pj;split at h
    ·rename_i d0 hd0;split at h
     ·rename_i x hx;cases h;obtain⟨b,cn,hid,rfl⟩:=bW hr;obtain⟨b',Vu,YQ,e1,k1,k2,k3,k4⟩:=hm.ok id _ (hle _ _ Tg);rw[k1]at hid;cases hid
      match YQ,k3,k2,k4 with
      | [v1],k3,k2,k4=>
       have hv1:=k4 0 (.ptr id2 0) v1 rfl rfl;obtain⟨b2,cn2,Vd,rfl⟩:=bW (P:=P) (.c hv1);obtain⟨b3,cn3,arr,e,q1,q2,q3,q4⟩:=hm.ok id2 _ (hle _ _ Pj);rw[q1]at Vd;cases Vd
       have hlt:k<arr.length:=by rw[q3];exact(K_.1 hd0).1
       have hy:=c9 (q4 k (.im d0) _ hd0 (K9 hlt));have hl:=cA F hx
       refine⟨⟨_,_,arr[k],rfl,hi.fz id (by simp) _ (G.MH k1),hi.fz id2 (by simp) _ (G.MH q1),by simp[World.cell?,k2],by simp[World.cell?,q2,hlt],?_⟩,rfl,rfl,?_⟩
       ·have hy2:L_ w Li d0 arr[k]:=hy.mono hi.Li (λ_ _=>rfl)
        match he:LZ F t x,hl with
        | [d1],hl=>exact .one (hy2.Xu (hl.2 0 d0 d1 rfl rfl))
        | [],hl=>simp[Tk]at hl
        | _::_::_,hl=>simp[Tk]at hl
       ·intro id' NY;simp only[Nz,QeT,or_false]at NY;rcases NY with rfl | rfl
        ·exact .inr (.inr ⟨_,Tg,rfl⟩)
        ·exact .inr (.inr ⟨_,Pj,rfl⟩)
      | [],k3,_,_=>simp at k3
      | _::_::_,k3,_,_=>simp at k3
     ·cases h
    ·cases h
   ·cases h
  ·cases h
 ·cases h
theorem tK(hm:LQ own g w m)(hle:P6 mm m){t:Ty}{d:Dat F}{p:Pk (ET F t)}(h:uF mm t d=some p){Li:Nat→Prop}(hi:TH g p.fz Li){v:Value}(hr:Ma P g w d v) :
  Mh (F:=F) ⟨λ_=>none,Li,λ_=>False⟩ w (.Uz (LZ F t p.x)) v∧p.os = []∧p.bx = []∧R4 mm p.fz:=by
 unfold uF at h;split at h
 ·rename_i id;split at h
  ·rename_i id2 Tg;split at h
   ·rename_i cs Pj;split at h
    ·cases h
    ·rename_i ds fz hds;split at h
     ·cases h
     ·rename_i x hx;cases h;obtain⟨b,cn,hid,rfl⟩:=bW hr;obtain⟨b',Vu,YQ,e1,k1,k2,k3,k4⟩:=hm.ok id _ (hle _ _ Tg);rw[k1]at hid;cases hid
      match YQ,k3,k2,k4 with
      | [v1],k3,k2,k4=>
       have hv1:=k4 0 (.ptr id2 0) v1 rfl rfl;obtain⟨b2,cn2,Vd,rfl⟩:=bW (P:=P) (.c hv1);obtain⟨b3,cn3,arr,e,q1,q2,q3,q4⟩:=hm.ok id2 _ (hle _ _ Pj);rw[q1]at Vd;cases Vd
       refine⟨Ca (o:=0) (o2:=0) (cA F hx) (hi.fz id (by simp) _ (G.MH k1)) (by simp[World.cell?,k2]) (hi.fz id2 (by simp) _ (G.MH q1)) ?_,rfl,rfl,?_⟩
       ·intro k d hk
        have hlt:k<arr.length:=by rw[q3,← iz hds];exact(K_.1 hk).1
        refine⟨arr[k],by simp[World.cell?,q2,hlt],?_⟩
        exact jJ hm hle hds (g1:=⟨g.ids,Li,g.len⟩) ⟨λ_ _ h=>h,hi.Li,λ_ _=>rfl,λ_ h=>h,λ_ _=>rfl⟩ (λid' NY b' hb'=>hi.fz id' (by simp[NY]) b' hb') arr q4 k d _ hk (K9 hlt)
       ·intro id' NY;rcases Nz.1 NY with rfl | NY
        ·exact .inr (.inr ⟨_,Tg,rfl⟩)
        ·rcases Nz.1 NY with rfl | NY
         ·exact .inr (.inl ⟨cs,ds,fz,Pj,hds,λx hx=>by simp[hx]⟩)
         ·exact .inl (oy hds id' NY)
      | [],k3,_,_=>simp at k3
      | _::_::_,k3,_,_=>simp at k3
   ·cases h
  ·rename_i cs Tg;split at h
   ·cases h
   ·rename_i x hx;cases h;obtain⟨b,cn,hid,rfl⟩:=bW hr;obtain⟨b',Vu,YQ,e1,k1,k2,k3,k4⟩:=hm.ok id _ (hle _ _ Tg);rw[k1]at hid;cases hid
    match YQ,k3,k2,k4 with
    | [v1],k3,k2,k4=>
     have hv1:=k4 0 (.pt cs 0) v1 rfl rfl;obtain⟨b2,o2,f,hb2,rfl,hc,hrr⟩:=rz (P:=P) (.c hv1)
     refine⟨Ca (o:=0) (cA F hx) (hi.fz id (by simp) _ (G.MH k1)) (by simp[World.cell?,k2]) (hi.Li b2 hb2) (λk d hk=>⟨_,hc k d hk,(hrr k d hk).mono hi.Li (λ_ _=>rfl)⟩),rfl,rfl,?_⟩
     intro id' NY;rw[Lb]at NY;subst NY;exact .inr (.inr ⟨_,Tg,rfl⟩)
    | [],k3,_,_=>simp at k3
    | _::_::_,k3,_,_=>simp at k3
  ·cases h
 ·cases h
theorem MG.lift{w w':World}{Li LX:Nat→Prop}(hi:∀b,Li b→LX b∧w'.heap[b]? = w.heap[b]?):∀{ds:List (ND F)} {k:Nat} {vs:List Value},MG w Li [] k ds vs []→MG w' LX [] k ds vs []
 | [],k,vs,h=>by cases vs<;>simp_all [MG]
 | d::ds,k,vs,h=>by
  cases vs with
  | nil=>simp[MG]at h
  | cons v vs=>simp only[MG,Mf,RZ,if_false]at h ⊢;exact⟨h.1.mono (λb hb=>(hi b hb).1) (λb hb=>(hi b hb).2),h.2.lift hi⟩
theorem NH.lift{w w':World}{Li LX:Nat→Prop}(hi:∀b,Li b→LX b∧w'.heap[b]? = w.heap[b]?){t:Ty}{x:ET F t}{v:Value}(h:NH w Li t [] x v []):NH w' LX t [] x v []:=by
 unfold NH at h ⊢;split
 ·rename_i hs;rw[if_pos hs]at h;obtain⟨vs,h1,h2⟩:=h;exact⟨vs,h1,h2.lift hi⟩
 ·rename_i hs;rw[if_neg hs]at h;exact h.lift hi
theorem MG.OX{Li:Nat→Prop}:∀{ds:List (ND F)} {k:Nat} {vs:List Value} {LJ:List Pl},MG w Li [] k ds vs LJ→LJ = []
 | [],k,vs,LJ,h=>by cases vs<;>simp_all [MG]
 | d::ds,k,vs,LJ,h=>by
  cases vs with
  | nil=>simp[MG]at h
  | cons v vs=>simp only[MG,Mf,RZ,if_false]at h;exact h.2.OX
theorem NH.OX{Li:Nat→Prop}{t:Ty}{x:ET F t}{v:Value}{LJ:List Pl}(h:NH w Li t [] x v LJ):LJ = []:=by
 unfold NH at h;split at h
 ·obtain⟨vs,_,h2⟩:=h;exact h2.OX
 ·exact h.OX
theorem vC{Li:Nat→Prop}:∀{ds:List (ND F)} {k:Nat} {vs:List Value},vs.length=ds.length→(∀(k:Nat)(d:ND F)(x:Value),ds[k]? = some d→vs[k]? = some x→L_ w Li d x)→MG w Li [] k ds vs []
 | [],k,vs,hl,_=>by have:vs = []:=Ui hl;subst this;rfl
 | d::ds,k,vs,hl,hr=>by
  match vs,hl with
  | v::vs,hl=>
   simp only[MG,Mf,RZ,if_false]
   exact⟨hr 0 d v rfl rfl,vC (by simpa using hl) (λk d x a b=>hr (k+1) d x a b)⟩
theorem A8{Li:Nat→Prop}{t:Ty}{x:ET F t}{v:Value}(h:Pt w Li (LZ F t x,t.OP) v):NH w Li t [] x v []:=by
 unfold NH
 cases hs:t.OP with
 | true=>
  rw[if_pos rfl];rw[hs]at h;generalize hc:LZ F t x=cs at h ⊢
  cases h with
  | agg hl hr=>exact⟨_,rfl,vC hl hr⟩
 | false=>
  rw[if_neg (by simp)]
  rw[hs]at h;generalize hc:LZ F t x=cs at h ⊢
  cases h with
  | one h=>
   refine vC rfl ?_;intro k d y h1 h2
   cases k with
   | zero=>simp only[PW,NJ]at h1 h2;subst h1 h2;exact h
   | succ k=>simp at h1
theorem vk{Li:Nat→Prop}:∀{ds:List (ND F)} {k:Nat} {vs:List Value},MG w Li [] k ds vs []→vs.length=ds.length∧(∀(k:Nat)(d:ND F)(x:Value),ds[k]? = some d→vs[k]? = some x→L_ w Li d x)
 | [],k,vs,h=>by cases vs<;>simp_all [MG]
 | d::ds,k,vs,h=>by
  cases vs with
  | nil=>simp[MG]at h
  | cons v vs=>
   simp only[MG,Mf,RZ,if_false]at h;obtain⟨h1,h2⟩:=vk h.2
   refine⟨by simp[h1],?_⟩
   intro j d' x a b
   cases j with
   | zero=>simp only[PW,NJ]at a b;subst a b;exact h.1
   | succ j=>exact h2 j d' x a b
theorem rT{Li:Nat→Prop}{t:Ty}{x:ET F t}{v:Value}(h:NH w Li t [] x v []):Pt w Li (LZ F t x,t.OP) v:=by
 unfold NH at h
 cases hs:t.OP with
 | true=>rw[hs]at h;obtain⟨vs,rfl,h2⟩:=h;obtain⟨h3,h4⟩:=vk h2;exact .agg h3 h4
 | false=>
  rw[hs]at h;simp only[RZ,if_false]at h;obtain⟨h3,h4⟩:=vk h
  have hl:∃d,LZ F t x = [d]:=by
   cases hc:LZ F t x with
   | nil=>rw[hc]at h3;simp at h3
   | cons d r=>rw[hc]at h3;simp at h3;exact⟨d,by rw[h3]⟩
  obtain⟨d,hd⟩:=hl;rw[hd]
  exact .one (h4 0 d v (by rw[hd];rfl) rfl)
theorem qh{t:Ty}(hf:je F t=true)(x:ET F t):∀d∈LZ F t x,d.flat=true:=by
 cases t with
 | int k=>simp[LZ,TA.flat]
 | bool=>simp[LZ,TA.flat]
 | str=>simp[LZ,TA.flat]
 | slice t=>simp[je]at hf
 | st n=>
  simp only[LZ];simp only[je]at hf
  have gen:∀(ts:List Ty)(a:M7 F ts),(ts.all λt=>match t with | .slice _=>false | .st _=>false | _=>true)=true→∀d∈OU F ts a,d.flat=true:=by
   intro ts
   induction ts with
   | nil=>intro a _ d hd;simp[OU]at hd
   | cons t ts ih=>
    intro a h d hd;simp only[Z4,Np]at h;rcases Nz.1 hd with rfl | hd
    ·cases t<;>first | rfl | simp at h
    ·exact ih a.2 h.2 d hd
  exact gen _ _ hf
theorem Pt.flat{w w':World}{Li LX:Nat→Prop}{cs:List (ND F)}{b:Bool}(hf:∀d∈cs,d.flat=true){v:Value}(h:Pt w Li (cs,b) v):Pt w' LX (cs,b) v:=by
 cases h with
 | one h=>exact .one (h.flat (hf _ (by simp)))
 | agg hl h=>exact .agg hl (λk c x a b=>(h k c x a b).flat (hf c (Wu a)))
end
set_option linter.unusedVariables false
set_option linter.unusedSimpArgs false
section
variable{F:Fam}{P:Program}{own:Ow}{g:G}{w:World}{m mm:Nat→Option (Mg F)}
theorem wu(hm:LQ own g w m)(hle:P6 mm m){k:Kd}{d:Dat F}{p:Pk (k.El F)}(h:UL mm k d=some p){Li:Nat→Prop}(hi:TH g p.fz Li){v:Value}(hr:Ma P g w d v) :
  (∀(w':World)(LX:Nat→Prop),(∀b,Li b→LX b∧w'.heap[b]? = w.heap[b]?)→Held P w' LX k p.x v [] [])∧R4 mm p.fz:=by
 unfold UL at h;split at h
 ·obtain⟨h1,h2,h3,_⟩:=rV hm hle h hi hr;have h4:=h1.OX;rw[h4]at h1;exact⟨λw' LX hw=>⟨h1.lift hw,rfl⟩,R4.Po h3⟩
 ·obtain⟨h1,h2,h3,h4⟩:=uW hm hle h hi hr;refine⟨λw' LX hw=>⟨rfl,rfl,?_⟩,h4⟩;exact Mh.le (g:=⟨λ_=>none,Li,λ_=>False⟩) (g':=⟨λ_=>none,LX,λ_=>False⟩) ⟨λ_ _ h=>h,λb hb=>(hw b hb).1,λb hb=>(hw b hb).2,λ_ h=>h,λ_ h=>h.elim⟩ h1
 ·obtain⟨h1,h2,h3,h4⟩:=tK hm hle h hi hr;refine⟨λw' LX hw=>⟨rfl,rfl,?_⟩,h4⟩;exact Mh.le (g:=⟨λ_=>none,Li,λ_=>False⟩) (g':=⟨λ_=>none,LX,λ_=>False⟩) ⟨λ_ _ h=>h,λb hb=>(hw b hb).1,λb hb=>(hw b hb).2,λ_ h=>h,λ_ h=>h.elim⟩ h1
 ·obtain⟨h1,h2,h3,h4⟩:=uH hm hle h hi hr;exact⟨λw' LX hw=>⟨rfl,rfl,h1.lift hw⟩,h4⟩
 ·cases h
theorem R4.append{l r:List Nat}(h:R4 mm l)(k:R4 mm r):R4 mm (l++r):=by
 intro id hid;rcases OB.1 hid with hid | hid
 ·rcases h id hid with h | ⟨cs,ds,fz,h1,h2,h3⟩ | h
  ·exact .inl h
  ·exact .inr (.inl ⟨cs,ds,fz,h1,h2,λx hx=>by simp[h3 x hx]⟩)
  ·exact .inr (.inr h)
 ·rcases k id hid with h | ⟨cs,ds,fz,h1,h2,h3⟩ | h
  ·exact .inl h
  ·exact .inr (.inl ⟨cs,ds,fz,h1,h2,λx hx=>by simp[h3 x hx]⟩)
  ·exact .inr (.inr h)
theorem iW{vs:List Value}(h:MF (F:=F) P g w [] vs):vs = []:=Ui h.1
theorem jN{d:Dat F}{ds:List (Dat F)}{vs:List Value}(h:MF P g w (d::ds) vs):∃v vs',vs=v::vs'∧Ma P g w d v∧MF P g w ds vs':=by
 match vs,h with
 | [],h=>exact absurd h.1 (by simp)
 | v::vs,h=>exact⟨v,vs,rfl,(aZ.1 h).1,(aZ.1 h).2⟩
theorem Do{w:World}{Li:Nat→Prop}{d:List (ND F)×Bool}{ds:List (List (ND F)×Bool)}{vs:List Value}(h:UZ w Li (d::ds) vs):∃v vs',vs=v::vs'∧Pt w Li d v∧UZ w Li ds vs':=by
 match vs,h with
 | [],h=>exact absurd h.1 (by simp)
 | v::vs,h=>exact⟨v,vs,rfl,h.2 0 d v rfl rfl,by simpa using h.1,λk d x a b=>h.2 (k+1) d x a b⟩
theorem AW{mm:Nat→Option (Mg F)}{k:Kd}{d:Dat F}{p:Pk (k.El F)}(h:UL mm k d=some p):k.Ur=false:=by
 cases k with
 | cl f n=>simp[UL]at h
 | _=>rfl
theorem ml(hm:LQ own g w m)(hle:P6 mm m):∀{kk:List Kd}{fs:List (Dat F)} {ks:List Ty} {cs:List (Dat F)} {q:Pk (M7 F ks→HL F kk)},O1 mm kk fs ks cs=some q→
  ∀{Li:Nat→Prop},TH g q.fz Li→∀{vs us:List Value},MF P g w fs vs→MF P g w cs us→
  (∀(w':World)(LX:Nat→Prop),(∀b,Li b→LX b∧w'.heap[b]? = w.heap[b]?)→∀(a:M7 F ks)(vs':List Value),UZ w' LX (SL F ks a) vs'→db P w' LX kk (q.x a) (vs++vs'++us) [] [])∧R4 mm q.fz
 | [],fs,ks,cs,q,h,Li,hi,vs,us,hf,hc=>by
  cases fs with
  | cons d fs=>cases ks<;>cases cs<;>simp[O1]at h
  | nil=>
   cases ks with
   | cons t ks=>cases cs<;>simp[O1]at h
   | nil=>
    cases cs with
    | cons d cs=>simp[O1]at h
    | nil=>
     simp only[O1,NJ]at h;subst h;have h1:=iW hf;have h2:=iW hc;subst h1 h2
     refine⟨λw' LX hw a vs' ht=>?_,λid hid=>by simp at hid⟩
     have:vs' = []:=Ui ht.1;subst this;exact⟨rfl,rfl,rfl⟩
 | k::kk,d::fs,ks,cs,q,h,Li,hi,vs,us,hf,hc=>by
  simp only[O1]at h;split at h
  ·cases h
  ·rename_i p hp;split at h
   ·cases h
   ·rename_i q' hq';cases h;obtain⟨v,Yq,rfl,hr,hf'⟩:=jN hf
    obtain⟨h1,h2⟩:=wu hm hle hp (hi.sub (λid hid=>by simp[hid])) hr
    obtain⟨h3,h4⟩:=ml hm hle hq' (hi.sub (λid hid=>by simp[hid])) hf' hc
    exact⟨λw' LX hw a vs' ht=>tk (AW hp) ⟨v,_,[],[],[],[],rfl,rfl,rfl,h1 w' LX hw,h3 w' LX hw a vs' ht⟩,h2.append h4⟩
 | k::kk,[],t::ks,cs,q,h,Li,hi,vs,us,hf,hc=>by
  have hk:∃t',k = .v t' []:=by
   cases k with
   | v t' ow=>cases ow with
    | nil=>exact⟨t',rfl⟩
    | cons=>simp[O1]at h
   | box=>simp[O1]at h
   | rp=>simp[O1]at h
   | fn=>simp[O1]at h
   | row=>simp[O1]at h
   | TD=>simp[O1]at h
   | pk=>simp[O1]at h
   | ln=>simp[O1]at h
   | nb=>simp[O1]at h
   | cl=>simp[O1]at h
  obtain⟨t',rfl⟩:=hk;simp only[O1]at h;split at h
  ·rename_i e;subst e;split at h
   ·cases h
   ·rename_i q' hq';cases h;have h1:=iW hf;subst h1
    obtain⟨h3,h4⟩:=ml (vs:=[]) hm hle hq' hi ⟨rfl,by simp⟩ hc
    refine⟨λw' LX hw a vs' ht=>?_,h4⟩;obtain⟨v,Yq,rfl,hr,ht'⟩:=Do ht;exact⟨v,_,[],[],[],[],rfl,rfl,rfl,⟨A8 hr,rfl⟩,h3 w' LX hw a.2 Yq ht'⟩
  ·cases h
 | k::kk,[],[],cs,q,h,Li,hi,vs,us,hf,hc=>by
  cases cs with
  | nil=>simp[O1]at h
  | cons d cs=>
   simp only[O1]at h;split at h
   ·cases h
   ·rename_i p hp;split at h
    ·cases h
    ·rename_i q' hq';cases h;have h1:=iW hf;subst h1;obtain⟨v,us0,rfl,hr,hc'⟩:=jN hc
     obtain⟨h1,h2⟩:=wu hm hle hp (hi.sub (λid hid=>by simp[hid])) hr
     obtain⟨h3,h4⟩:=ml (vs:=[]) hm hle hq' (hi.sub (λid hid=>by simp[hid])) ⟨rfl,by simp⟩ hc'
     refine⟨λw' LX hw a vs' ht=>?_,h2.append h4⟩;have h0:vs' = []:=Ui ht.1;subst h0;exact tk (AW hp) ⟨v,us0,[],[],[],[],rfl,rfl,rfl,h1 w' LX hw,h3 w' LX hw a [] ht⟩
theorem yg{sp:Spec F}{r:Ty}{D:HL F sp.ks→Option (ET F r)}(h:fb sp r=some D){a:HL F sp.ks}{y:ET F r}(hd:D a=some y) :
  ∃r',sp.D a=some r'∧∀(w:World)(Li:Nat→Prop)(Ru:List Value)(Me:List Pl) (LJ:List Pl),eE P w Li (outs sp) r' Ru Me LJ→∃v,Ru = [v]∧Me = []∧NH w Li r [] y v LJ:=by
 obtain⟨ks,rs,D0⟩:=sp
 match rs,D0,D,h,hd with
 | [.v t []],D0,D,h,hd=>
  simp only[fb]at h;simp only[outs]
  have key:∀(bl:List Kd)(D0:HL F ks→Option (TL F ([.v t []]++bl))) (D:HL F ks→Option (ET F r)),xj ks t r bl D0=some D→D a=some y→∃r',D0 a=some r'∧∀(w:World)(Li:Nat→Prop)(Ru:List Value)(Me:List Pl) (LJ:List Pl),eE P w Li ([.v t []]++bl) r' Ru Me LJ→∃v,Ru = [v]∧Me = []∧NH w Li r [] y v LJ:=by
   intro bl
   cases bl with
   | nil=>
    intro D0 D h hd;simp only[xj]at h;split at h
    ·rename_i e;subst e;cases h;refine⟨y,hd,?_⟩;intro w Li Ru Me LJ hh;obtain⟨v,h1,h2,h3,_⟩:=hh;exact⟨v,h1,h2,h3⟩
    ·cases h
   | cons b bl=>intro D0 D h hd;cases h
  exact key _ D0 D h hd
 | [],D0,D,h,hd=>simp[fb]at h
 | .v t (_::_)::_,D0,D,h,hd=>simp[fb]at h
 | .box _ _::_,D0,D,h,hd=>simp[fb]at h
 | .rp _::_,D0,D,h,hd=>simp[fb]at h
 | .fn _ _::_,D0,D,h,hd=>simp[fb]at h
 | .row _ _::_,D0,D,h,hd=>simp[fb]at h
 | .TD _::_,D0,D,h,hd=>simp[fb]at h
 | .pk _ _::_,D0,D,h,hd=>simp[fb]at h
 | .ln _::_,D0,D,h,hd=>simp[fb]at h
 | .nb _ _::_,D0,D,h,hd=>simp[fb]at h
 | .v t []::_::_,D0,D,h,hd=>simp[fb]at h
end
set_option linter.unusedVariables false
set_option linter.unusedSimpArgs false
section
variable{F:Fam}{P:Program}{own:Ow}{g:G}{w:World}{m mm:Nat→Option (Mg F)}{Γ : Ctx F}
def ML(P:Program)(Γ : Ctx F):Prop:=∀f sp,look Γ f=some sp→O6 P f sp
theorem Dz{f:FuncId}{sp:Spec F}(hf:O6 P f sp){ks:List Ty}{r:Ty}{D:HL F sp.ks→Option (ET F r)}(hD:fb sp r=some D)(hfl:je F r=true){q:M7 F ks→HL F sp.ks}{bs us:List Value}(hbs:bs = []∨ks.length=1){Li:Nat→Prop}
  (hq:∀(w':World)(LX:Nat→Prop),(∀b,Li b→LX b∧w'.heap[b]? = w.heap[b]?)→∀(a:M7 F ks)(vs':List Value),UZ w' LX (SL F ks a) vs'→db P w' LX sp.ks (q a) (bs++vs'++us) [] []) :
  Vg P F w Li ks r (λa=>D (q a)) (.func (.func f) ⟨bs⟩ ⟨us⟩):=by
 refine⟨f,bs,us,rfl,hbs,hf.1,?_⟩;intro w' LX hw hlt a x vs' hφ ht;obtain⟨r',hr',hout⟩:=yg (P:=P) hD hφ
 refine(hf.2 (q a) r' hr' LX w' (bs++vs'++us) [] [] (hq w' LX hw a vs' ht) ⟨by simp[Lh],by simp[Lh],by simp[Lh]⟩ hlt).mono ?_
 rintro e w'' ⟨Ru,akv,Mk,rfl,h1,h2,h3,hdr,h4,h5,h6,h7,h8,h9,h10,h11⟩;obtain⟨v,rfl,_,hv⟩:=hout w'' akv Ru [] Mk h9;have hn:=hv.OX;subst hn
 exact⟨v,rfl,⟨h1,h2,h3,h4,λb hb=>h5 b hb (by simp[Lh])⟩,(rT hv).flat (qh hfl x),hdr⟩
theorem Bz(hΓ : ML P Γ)(hm:LQ own g w m)(hle:P6 mm m){ks:List Ty}{r:Ty}{d:Dat F}{p:Pk (M7 F ks→Option (ET F r))}(h:AL Γ mm ks r d=some p){Li:Nat→Prop}(hi:TH g p.fz Li){v:Value}(hr:Ma P g w d v) :
  Vg P F w Li ks r p.x v∧p.os = []∧p.bx = []∧R4 mm p.fz:=by
 unfold AL at h;split at h
 ·rename_i ks' r' φ;split at h
  ·rename_i e;split at h
   ·rename_i e';subst e e';cases h
    cases hr with
    | fv hr=>exact⟨Vg.le (g:=g) (g':=⟨g.ids,Li,g.len⟩) ⟨λ_ _ h=>h,hi.Li,λ_ _=>rfl,λ_ h=>h,λ_ _=>rfl⟩ hr,rfl,rfl,λid hid=>by simp at hid⟩
   ·cases h
  ·cases h
 ·rename_i f cs;split at h
  ·rename_i hfl;split at h
   ·cases h
   ·rename_i sp hsp;split at h
    ·rename_i D q hD hq;cases h
     cases hr with
     | RY h1 h2 hf hc=>
      obtain⟨k1,k2⟩:=ml (P:=P) (vs:=[]) hm hle hq hi ⟨rfl,by simp⟩ ⟨h2,hc⟩
      have hv0:=Ui h1;subst hv0;exact⟨Dz (bs:=[]) (hΓ f sp hsp) hD hfl (.inl rfl) k1,rfl,rfl,k2⟩
    ·cases h
     cases hr with
     | RY h1 h2 hf hc=>
      have hv0:=Ui h1;subst hv0
      exact⟨⟨f,[],_,rfl,.inl rfl,(hΓ f sp hsp).1,λ_ _ _ _ _ _ _ h=>nomatch h⟩,rfl,rfl,λid hid=>by simp at hid⟩
  ·cases h
 ·rename_i f d0 fs cs;split at h
  ·rename_i hfl;rw[Np]at hfl;split at h
   ·cases h
   ·rename_i sp hsp;split at h
    ·rename_i D q hD hq;cases h
     cases hr with
     | RY h1 h2 hf hc=>obtain⟨k1,k2⟩:=ml (P:=P) hm hle hq hi ⟨h1,hf⟩ ⟨h2,hc⟩;exact⟨Dz (hΓ f sp hsp) hD hfl.1 (.inr (Rh hfl.2)) k1,rfl,rfl,k2⟩
    ·cases h
  ·cases h
 ·rename_i f;split at h
  ·rename_i hfl;split at h
   ·cases h
   ·rename_i sp hsp;split at h
    ·rename_i D q hD hq;cases h;have hv:=IQ hr;subst hv
     obtain⟨k1,k2⟩:=ml (P:=P) (vs:=[]) (us:=[]) hm hle hq hi ⟨rfl,by simp⟩ ⟨rfl,by simp⟩
     exact⟨Dz (bs:=[]) (hΓ f sp hsp) hD hfl (.inl rfl) k1,rfl,rfl,k2⟩
    ·cases h
  ·cases h
 ·cases h
def G.lf(g:G):G:=⟨g.ids,g.al,g.len⟩
theorem uC(g:G)(w:World):Le g w g.lf w:=⟨λ_ _ h=>h,λ_ h=>.inl h,λ_ _=>rfl,λ_ h=>h,λ_ _=>rfl⟩
theorem LQ.lf(hm:LQ own g w m):LQ ⟨own.o,λb=>own.i b∨g.len b,own.nm⟩ g.lf w m:=
 ⟨λid B h=>(hm.ok id B h).le (uC g w) (λ_ _ _=>rfl),hm.SX,λid B b h ho hb=>⟨(hm.own id B b h ho hb).1,λhi=>hi.elim (hm.own id B b h ho hb).2 λhl=>(hm.len b hl).1 (hm.own id B b h ho hb).1⟩,
  λb hb=>hb.elim (hm.Li b) λhl=>(hm.len b hl).2,λb hb=>hb.elim (λh=>(hm.io b h).imp .inl id) λh=>.inl (.inr h),hm.len⟩
theorem yG{c:MJ F}{v:Value}(h:Mh g w c v):Mh g.lf w (YU c) v:=by
 cases c with
 | ln d=>cases h with | ln h=>exact .im h
 | _=>exact h.le (uC g w)
theorem A9{d:Dat F}{v:Value}(h:Ma P g w d v):Ma P g.lf w (Vy d) v:=by
 cases h with
 | c h=>exact .c (yG h)
 | agg hl h=>
  refine .agg (by rw[Py];exact hl) λk c x a b=>?_
  rw[Rf]at a;obtain⟨c0,h0,rfl⟩:=Wi.1 a;exact yG (h k c0 x h0 b)
 | Pp hl h=>exact(Ma.Pp hl h).le (uC g w)
 | RY h1 h2 h3 h4=>exact(Ma.RY h1 h2 h3 h4).le (uC g w)
 | fv h=>exact(Ma.fv h).le (uC g w)
 | gh h=>exact(Ma.gh h).le (uC g w)
theorem yC{ds:List (Dat F)}{vs:List Value}(h:MF P g w ds vs):MF P g.lf w (ds.map Vy) vs:=by
 refine⟨by rw[Py];exact h.1,λk d x a b=>?_⟩
 rw[Rf]at a;obtain⟨c0,h0,rfl⟩:=Wi.1 a;exact A9 (h.2 k c0 x h0 b)
theorem r9(hΓ : ML P Γ)(hm:LQ own g w m)(hle:P6 mm m){k:Kd}{d:Dat F}{p:Pk (k.El F)}(h:Rs Γ mm k d=some p){Li:Nat→Prop}(hi:TH g p.fz Li){v:Value}(hr:Ma P g w d v) :
  ∃Me,Held P w Li k p.x v (p.os.map (Mi g)) Me∧p.bx.map g.ids=Me.map some∧R4 mm p.fz∧(∀id,some id∈p.os→∃B,mm id=some B∧B.owned=true)∧(∀id∈p.bx,some id∈p.os):=by
 cases k with
 | v t ow=>
  obtain⟨h1,h2,h3,h4⟩:=rV hm hle h hi hr
  exact⟨[],⟨h1,rfl⟩,by rw[h2];rfl,R4.Po h3,h4,by rw[h2];simp⟩
 | box t ow=>
  obtain⟨id,bx,os,h1,h2,h3,h4,h5,h6,h7,h8⟩:=nV hm hle h hi hr
  refine⟨[some (Vq bx)],⟨bx,os.map (Mi g),rfl,?_,h5,h6⟩,by rw[h2];simp[h4],R4.Po h7,h8,by rw[h2,h1];simp⟩
  rw[h1];simp[Mi,h4]
 | rp t=>
  obtain⟨h1,h2,h3,h4⟩:=uW hm hle h hi hr
  exact⟨[],⟨by rw[h2];rfl,rfl,h1⟩,by rw[h3];rfl,h4,by rw[h2];simp,by rw[h3];simp⟩
 | fn ks r=>
  obtain⟨h1,h2,h3,h4⟩:=Bz hΓ hm hle h hi hr
  exact⟨[],⟨by rw[h2];rfl,rfl,h1⟩,by rw[h3];rfl,h4,by rw[h2];simp,by rw[h3];simp⟩
 | TD t=>
  obtain⟨h1,h2,h3,h4⟩:=tK hm hle h hi hr
  exact⟨[],⟨by rw[h2];rfl,rfl,h1⟩,by rw[h3];rfl,h4,by rw[h2];simp,by rw[h3];simp⟩
 | pk k t=>
  obtain⟨h1,h2,h3,h4⟩:=uH hm hle h hi hr
  exact⟨[],⟨by rw[h2];rfl,rfl,h1⟩,by rw[h3];rfl,h4,by rw[h2];simp,by rw[h3];simp⟩
 | ln t=>
  simp only[Rs,FV]at h;split at h
  ·cases h
  ·rename_i p0 hp0;cases h;have hm2:=hm.lf;have hfz:TH g.lf p0.fz (g.lf.Rm p0.fz).Li:=⟨λ_ h=>.inl h,λid hid b hb=>.inr ⟨id,hid,hb⟩⟩;obtain⟨h1,h2,h3,h4⟩:=rV hm2 hle hp0 hfz (A9 hr);have hn:=h1.OX;rw[hn]at h1
   exact⟨[],⟨rfl,rfl,_,(mU hm2 hle (R4.Po h3)).Li,h1⟩,rfl,λid hid=>by simp at hid,by simp,by simp⟩
 | nb t ow=>
  simp only[Rs,Ev]at h;split at h
  ·rename_i p0 hp0;cases h;obtain⟨id,bx,os,h1,h2,h3,h4,h5,h6,h7,h8⟩:=nV hm hle hp0 hi hr
   refine⟨[],⟨bx,os.map (Mi g),rfl,?_,h5,h6⟩,rfl,R4.Po h7,h8,by simp⟩
   dsimp only;rw[h1];simp[Mi,h4]
  ·cases h
 | cl f n=>cases h
 | row t arr=>
  obtain⟨id,pl,h1,h2,h3,h4,h5,h6,h7,l,h8⟩:=sN hm hle h hi.Li hr
  refine⟨[pl],⟨pl,rfl,by rw[h1];simp[Mi,h5],h6,h7⟩,by rw[h2];simp[h5],λid hid=>by rw[h3]at hid;simp at hid,?_,by rw[h2,h1];simp⟩
  intro id' NY;rw[h1]at NY;simp only[Lb,NJ]at NY;subst NY;exact⟨_,h8,ke⟩
theorem GK{g:G}{w:World}{t:Ty}{l:List (ET F t)}{arr:Bool}{pl:Pl}{c:Nat}{v:Value}(h:da w g.Li t l pl)(hn:g.ids c=some pl)(hv:YS arr pl v):Ma (F:=F) P g w (if arr then .c (.ptr c 0)else .c (.Nn c)) v:=by
 cases arr with
 | true=>obtain⟨b,q,rfl,rfl⟩:=hv;exact .c (.ptr hn)
 | false=>
  refine .c ?_;have hv:Ol pl v:=hv
  cases pl with
  | none=>obtain⟨p,rfl⟩:=hv;exact .PG p hn
  | some q=>obtain⟨b,cap,n⟩:=q;obtain⟨rfl,h2,h3,_⟩:=h;cases hv;exact .Nn hn h2 h3
theorem zr{g:G}{w:World}{t:Ty}{l:List (ET F t)}{arr:Bool}{pl:Pl}{c:Nat}{v:Value}(h:OG w g.Li t l pl)(hn:g.ids c=some pl)(hv:YR t arr pl v):Ma (F:=F) P g w (Pf t arr c) v:=by
 unfold YR at hv;unfold OG at h;unfold Pf
 cases ht:t.Ny with
 | true=>rw[ht,if_pos rfl]at hv;obtain⟨b,rfl,rfl⟩:=hv;exact .c (.Sy hn)
 | false=>
  rw[ht,if_neg (by simp)]at hv h
  exact GK h hn hv
theorem Fv{f n:Nat}{ds ds':List (Dat F)}{vs:List Value}(h:zu f n ds=some ds')(hr:MF P g w ds vs) :
  ∃us vs',vs = .func (.func f) ⟨[]⟩ ⟨us⟩::vs'∧us.length=n∧MF P g w ds' (us++vs'):=by
 unfold zu at h;split at h
 ·rename_i f' cs ds0;split at h
  ·rename_i hc;cases h;simp only[Np]at hc;obtain⟨v,vs',rfl,h1,h2⟩:=jN hr;have hf:=Rh hc.1;have hl:=Rh hc.2;subst hf
   cases h1 with
   | RY q1 q2 q3 q4=>
    rename_i Yq us;have e0:Yq = []:=Ui q1;subst e0
    refine⟨us,vs',rfl,by omega,by rw[La,La,q2,h2.1],?_⟩
    intro k d x hd hx;rw[List.getElem?_append]at hd hx;split at hd
    ·rename_i hlt
     rw[if_pos (by omega)]at hx
     exact q4 k d x hd hx
    ·rename_i hlt
     rw[if_neg (by omega),q2]at hx
     exact h2.2 _ d x hd hx
  ·cases h
 ·cases h
theorem Bu{k:Kd}{ks:List Kd}{d:Dat F}{ds:List (Dat F)}(hk:k.Ur=false):lH Γ mm (k::ks) (d::ds)=match Rs Γ mm k d with
  | none=>none
  | some p=>match lH Γ mm ks ds with
   | none=>none
   | some q=>some ⟨(p.x,q.x),p.os++q.os,p.fz++q.fz,p.bx++q.bx⟩:=by
 cases k with
 | cl f n=>cases hk
 | _=>rfl
theorem Du{k:Kd}{ks:List Kd}{a:HL F (k::ks)}{c:Nat}(hk:k.Ur=false):NV (k::ks) a c=((O5 k a.1 c).1::(NV ks a.2 (O5 k a.1 c).2.2).1,(O5 k a.1 c).2.1++(NV ks a.2 (O5 k a.1 c).2.2).2.1,(NV ks a.2 (O5 k a.1 c).2.2).2.2):=by
 cases k with
 | cl f n=>cases hk
 | _=>rfl
theorem Gm{g:G}{w:World}{f n:Nat}{ds:List (Dat F)}{us vs:List Value}(hl:us.length=n)(h:MF P g w ds (us++vs)) :
  MF P g w (.RY (.func f) [] (ds.take n)::ds.drop n) (.func (.func f) ⟨[]⟩ ⟨us⟩::vs):=by
 have hlen:ds.length=us.length+vs.length:=by rw[← h.1,La]
 refine aZ.2 ⟨.RY rfl (by rw[Oy];omega) (λk c x a b=>by simp at a) ?_,?_,?_⟩
 ·intro k c x a b;rw[RG]at a;split at a
  ·exact h.2 k c x a (by rw[Rv (K_.1 b).1];exact b)
  ·cases a
 ·rw[Ro];omega
 ·intro k c x a b;rw[SY]at a
  exact h.2 (n+k) c x a (by rw[RF (by omega),← hl,QfP];exact b)
theorem pb(hΓ : ML P Γ)(hm:LQ own g w m)(hle:P6 mm m):∀{ks:List Kd}{ds:List (Dat F)} {p:Pk (HL F ks)},lH Γ mm ks ds=some p→∀{Li:Nat→Prop},TH g p.fz Li→∀{vs:List Value},MF P g w ds vs→
  ∃Me,db P w Li ks p.x vs (p.os.map (Mi g)) Me∧p.bx.map g.ids=Me.map some∧R4 mm p.fz∧(∀id,some id∈p.os→∃B,mm id=some B∧B.owned=true)∧(∀id∈p.bx,some id∈p.os)
 | [],ds,p,h,Li,hi,vs,hr=>by
  cases ds with
  | cons d ds=>simp[lH]at h
  | nil=>
   simp only[lH,NJ]at h;subst h;have:=iW hr;subst this
   exact⟨[],⟨rfl,rfl,rfl⟩,rfl,λid hid=>by simp at hid,by simp,by simp⟩
 | k::ks,ds,p,h,Li,hi,vs,hr=>by
  cases hk:k.Ur with
  | true=>
   cases k with
   | cl f n=>
    simp only[lH]at h;split at h
    ·cases h
    ·rename_i ds' hds;split at h
     ·cases h
     ·rename_i q hq;cases h;obtain⟨us,vs',rfl,hn,hr'⟩:=Fv hds hr;obtain⟨b2,l1,l2,l3,l4,l5⟩:=pb hΓ hm hle hq hi hr';exact⟨b2,⟨us,vs',rfl,hn,l1⟩,l2,l3,l4,l5⟩
   | _=>cases hk
  | false=>
  cases ds with
  | nil=>cases k<;>first | exact nomatch (show(none:Option (Pk (HL F (_::ks))))=some p from h) | cases hk
  | cons d ds=>
   rw[Bu hk]at h;split at h
   ·cases h
   ·rename_i p1 hp1;split at h
    ·cases h
    ·rename_i p2 hp2;cases h;obtain⟨v,vs',rfl,h1,h2⟩:=jN hr
     obtain⟨b1,k1,k2,k3,k4,k5⟩:=r9 hΓ hm hle hp1 (hi.sub (λid hid=>by simp[hid])) h1
     obtain⟨b2,l1,l2,l3,l4,l5⟩:=pb hΓ hm hle hp2 (hi.sub (λid hid=>by simp[hid])) h2
     refine⟨b1++b2,tk hk ⟨v,vs',p1.os.map (Mi g),p2.os.map (Mi g),b1,b2,rfl,by simp,rfl,k1,l1⟩,by simp[k2,l2],k3.append l3,?_,?_⟩
     ·intro id hid;rcases OB.1 hid with hid | hid
      ·exact k4 id hid
      ·exact l4 id hid
     ·intro id hid;rcases OB.1 hid with hid | hid
      ·exact ZP _ (k5 id hid)
      ·exact ZU _ (l5 id hid)
def Pm(g:G)(c:Nat)(LJ:List Pl):Prop:=∀j pl,LJ[j]? = some pl→g.ids (c+j)=some pl
theorem Pm.left{c:Nat}{p q:List Pl}(h:Pm g c (p++q)):Pm g c p:=λj pl hj=>h j pl (by rw[Rv (K_.1 hj).1];exact hj)
theorem Pm.right{c:Nat}{p q:List Pl}(h:Pm g c (p++q)):Pm g (c+p.length) q:=λj pl hj=>by
 have:=h (p.length+j) pl (by rw[RF (by omega)];simpa using hj)
 rwa [UA]
def Laid(g:G)(w:World)(c n:Nat)(bs:List (Nat×Mg F)):Prop:=∀p∈bs,∃j,p.1=c+j∧j<n∧p.2.owned=true∧Na g w p.1 p.2
theorem Laid.append{c n1 n2:Nat}{b1 b2:List (Nat×Mg F)}(h1:Laid g w c n1 b1)(h2:Laid g w (c+n1) n2 b2):Laid g w c (n1+n2) (b1++b2):=by
 intro p hp;rcases OB.1 hp with hp | hp
 ·obtain⟨j,k1,k2,k3⟩:=h1 p hp;exact⟨j,k1,by omega,k3⟩
 ·obtain⟨j,k1,k2,k3⟩:=h2 p hp;exact⟨n1+j,by omega,by omega,k3⟩
theorem DI{g:G}{w:World}{t:Ty}{l:List (ET F t)}{pl:Pl}{c:Nat}(h:da w g.Li t l pl)(hn:g.ids c=some pl):Na g w c (.row t l):=by
 cases pl with
 | none=>exact .inl ⟨hn,h⟩
 | some q=>obtain⟨b,cap,n⟩:=q;obtain⟨rfl,h2,h3,cur,e,h4,h5,h6⟩:=h;exact .inr ⟨b,cap,cur,e,hn,h4,h2,h3,h5,h6⟩
theorem HG{g:G}{w:World}{t:Ty}{l:List (ET F t)}{pl:Pl}{c:Nat}{v:Value}(h:da w g.Li t l pl)(hn:g.ids c=some pl)(hv:Ol pl v):Mh (F:=F) g w (.Nn c) v:=by
 cases pl with
 | none=>obtain⟨p,rfl⟩:=hv;exact .PG p hn
 | some q=>obtain⟨b,cap,n⟩:=q;obtain⟨rfl,h2,h3,_⟩:=h;cases hv;exact .Nn hn h2 h3
theorem Hn{g:G}{w:World}{t:Ty}{l:List (ET F t)}{pl:Pl}{c:Nat}{v:Value}(h:P8 w g.Li t l pl)(hn:g.ids c=some pl)(hv:Ol pl v):Mh (F:=F) g w (.Nn c) v:=by
 cases pl with
 | none=>obtain⟨p,rfl⟩:=hv;exact .PG p hn
 | some q=>
  obtain⟨b,cap,n⟩:=q;obtain⟨h1,h2,h3,_⟩:=h;cases hv
  exact .Nn hn (by rw[h1];exact h2) h3
theorem qt{g:G}{w:World}{t:Ty}{l:List (ET F t)}{pl:Pl}{c:Nat}(h:OG w g.Li t l pl)(hn:g.ids c=some pl):Na g w c (S_ t l):=by
 unfold OG at h;unfold S_
 cases ht:t.Ny with
 | true=>rw[ht,if_pos rfl]at h;obtain⟨b,rfl,h⟩:=h;exact⟨b,hn,h⟩
 | false=>
  rw[ht,if_neg (by simp)]at h
  exact DI h hn
theorem Eg{g:G}{w:World}{t:Ty}{l:List (ET F t)}{pl:Pl}{c:Nat}{v:Value}(h:OG w g.Li t l pl)(hn:g.ids c=some pl)(hv:T_ t pl v):Mh (F:=F) g w (adu F t c) v:=by
 unfold OG at h;unfold T_ at hv;unfold adu
 cases ht:t.Ny with
 | true=>rw[ht,if_pos rfl]at hv;obtain⟨b,rfl,rfl⟩:=hv;exact .Sy hn
 | false=>
  rw[ht,if_neg (by simp)]at h hv
  exact HG h hn hv
theorem mM{ow:List Nat}:∀{ds:List (ND F)} {k c:Nat} {vs:List Value} {LJ:List Pl},MG w g.Li ow k ds vs LJ→Pm g c LJ→
  (OO ow k c ds).1.length=vs.length∧(∀(j:Nat)(x:MJ F)(v:Value),(OO ow k c ds).1[j]? = some x→vs[j]? = some v→Mh g w x v)∧Laid g w c LJ.length (OO ow k c ds).2.1∧(OO ow k c ds).2.2=c+LJ.length∧vs.length=ds.length
 | [],k,c,vs,LJ,h,hn=>by
  cases vs with
  | cons v vs=>simp[MG]at h
  | nil=>
   simp only[MG]at h;subst h
   exact⟨rfl,by simp[OO],λp hp=>by simp[OO]at hp,rfl,rfl⟩
 | d::ds,k,c,vs,LJ,h,hn=>by
  cases vs with
  | nil=>simp[MG]at h
  | cons v vs=>
   simp only[MG]at h;split at h
   ·rename_i hk;split at h
    ·rename_i t l;obtain⟨pl,rest,rfl,h1,h2,h3⟩:=h;have hn0:g.ids c=some pl:=hn 0 pl rfl
     have hn':Pm g (c+1) rest:=λj q hj=>by
      have:=hn (j+1) q (by simpa using hj)
      rwa [show c+1+j=c+(j+1)by omega]
     obtain⟨k1,k2,k3,k4,k5⟩:=mM (c:=c+1) h3 hn';simp only[OO,hk,if_true]
     refine⟨by simp[k1],?_,?_,by rw[k4,PN];omega,by simp[k5]⟩
     ·intro j x u hx hu
      cases j with
      | zero=>simp only[PW,NJ]at hx hu;subst hx hu;exact Eg h1 hn0 h2
      | succ j=>exact k2 j x u (by simpa using hx) (by simpa using hu)
     ·intro p hp;rcases Nz.1 hp with rfl | hp
      ·exact⟨0,rfl,by simp,ke,qt h1 hn0⟩
      ·obtain⟨j,q1,q2,q3⟩:=k3 p hp
       exact⟨j+1,by omega,by simp only[PN];omega,q3⟩
    ·exact h.elim
   ·rename_i hk;split at h
    ·rename_i hk2;split at h
     ·rename_i t l;obtain⟨pl,rest,rfl,h1,h2,h3⟩:=h;have hn0:g.ids c=some pl:=hn 0 pl rfl
      have hn':Pm g (c+1) rest:=λj q hj=>by
       have:=hn (j+1) q (by simpa using hj)
       rwa [show c+1+j=c+(j+1)by omega]
      obtain⟨k1,k2,k3,k4,k5⟩:=mM (c:=c+1) h3 hn';simp only[OO,hk,hk2,RZ,if_false,if_true]
      refine⟨by simp[k1],?_,?_,by rw[k4,PN];omega,by simp[k5]⟩
      ·intro j x u hx hu
       cases j with
       | zero=>simp only[PW,NJ]at hx hu;subst hx hu;exact Hn h1 hn0 h2
       | succ j=>exact k2 j x u (by simpa using hx) (by simpa using hu)
      ·intro p hp;rcases Nz.1 hp with rfl | hp
       ·exact⟨0,rfl,by simp,rfl,⟨pl,hn0,h1⟩⟩
       ·obtain⟨j,q1,q2,q3⟩:=k3 p hp
        exact⟨j+1,by omega,by simp only[PN];omega,q3⟩
     ·exact h.elim
    ·rename_i hk2;obtain⟨k1,k2,k3,k4,k5⟩:=mM (c:=c) h.2 hn;simp only[OO,hk,hk2,RZ,if_false]
     refine⟨by simp[k1],?_,k3,k4,by simp[k5]⟩
     intro j x u hx hu
     cases j with
     | zero=>simp only[PW,NJ]at hx hu;subst hx hu;exact .im h.1
     | succ j=>exact k2 j x u (by simpa using hx) (by simpa using hu)
theorem Hh{t:Ty}{ow:List Nat}{x:ET F t}{v:Value}{LJ:List Pl}{c:Nat}(h:NH w g.Li t ow x v LJ)(hn:Pm g c LJ) :
  Ma P g w (VW t (OO ow 0 c (LZ F t x)).1) v∧Laid g w c LJ.length (OO ow 0 c (LZ F t x)).2.1∧(OO ow 0 c (LZ F t x)).2.2=c+LJ.length:=by
 unfold NH at h;unfold VW;split at h
 ·rename_i hs;obtain⟨vs,rfl,h⟩:=h;obtain⟨k1,k2,k3,k4,_⟩:=mM (c:=c) h hn;rw[if_pos hs];exact⟨.agg k1.symm k2,k3,k4⟩
 ·rename_i hs;obtain⟨k1,k2,k3,k4,_⟩:=mM (c:=c) h hn;rw[if_neg hs];refine⟨?_,k3,k4⟩
  cases hc:(OO ow 0 c (LZ F t x)).1 with
  | nil=>rw[hc]at k1;simp at k1
  | cons y r=>
   rw[hc]at k1 k2
   cases r with
   | nil=>exact .c (k2 0 y v rfl rfl)
   | cons z r=>exact .c .any
theorem dv{k:Kd}{x:k.El F}{v:Value}{LJ:List Pl}{Me:List Pl}{c:Nat}(h:Held P w g.Li k x v LJ Me)(hn:Pm g c LJ) :
  Ma P g w (O5 k x c).1 v∧Laid g w c LJ.length (O5 k x c).2.1∧(O5 k x c).2.2=c+LJ.length:=by
 cases k with
 | v t ow=>exact Hh h.1 hn
 | box t ow=>
  obtain⟨bx,rest,rfl,rfl,rfl,arr,e,h1,h2⟩:=h;have hn0:g.ids c=some (some (Vq bx)):=hn 0 _ rfl
  have hn':Pm g (c+1) rest:=λj q hj=>by
   have:=hn (j+1) q (by simpa using hj)
   rwa [show c+1+j=c+(j+1)by omega]
  obtain⟨k1,k2,k3,k4,k5⟩:=mM (c:=c+1) h2 hn';simp only[O5]
  refine⟨.c (.ptr hn0),?_,by rw[k4,PN];omega⟩
  intro p hp;rcases Nz.1 hp with rfl | hp
  ·exact⟨0,rfl,by simp,rfl,bx.1,bx.2,arr,e,hn0,h1,k1.symm,k2⟩
  ·obtain⟨j,q1,q2,q3⟩:=k3 p hp
   exact⟨j+1,by omega,by simp only[PN];omega,q3⟩
 | rp t=>
  obtain⟨rfl,rfl,h⟩:=h
  refine⟨.c ?_,λp hp=>by simp[O5]at hp,rfl⟩
  exact Mh.le (g:=⟨λ_=>none,g.Li,λ_=>False⟩) (g':=g) (w':=w) ⟨λ_ _ h=>(by cases h),λ_ h=>h,λ_ _=>rfl,λ_ h=>h.elim,λ_ h=>h.elim⟩ h
 | TD t=>
  obtain⟨rfl,rfl,h⟩:=h
  refine⟨.c ?_,λp hp=>by simp[O5]at hp,rfl⟩
  exact Mh.le (g:=⟨λ_=>none,g.Li,λ_=>False⟩) (g':=g) (w':=w) ⟨λ_ _ h=>(by cases h),λ_ h=>h,λ_ _=>rfl,λ_ h=>h.elim,λ_ h=>h.elim⟩ h
 | fn ks r=>
  obtain⟨rfl,rfl,h⟩:=h
  exact⟨.fv h,λp hp=>by simp[O5]at hp,rfl⟩
 | ln t=>
  obtain⟨rfl,rfl,h⟩:=h
  exact⟨.c .any,λp hp=>by simp[O5]at hp,rfl⟩
 | pk k t=>
  obtain⟨rfl,rfl,h⟩:=h
  exact⟨.c .any,λp hp=>by simp[O5]at hp,rfl⟩
 | cl f n=>exact h.elim
 | nb t ow=>
  obtain⟨bx,rest,rfl,rfl,rfl,arr,e,h1,h2⟩:=h;have hn0:g.ids c=some (some (Vq bx)):=hn 0 _ rfl
  have hn':Pm g (c+1) rest:=λj q hj=>by
   have:=hn (j+1) q (by simpa using hj)
   rwa [show c+1+j=c+(j+1)by omega]
  obtain⟨k1,k2,k3,k4,k5⟩:=mM (c:=c+1) h2 hn';simp only[O5]
  refine⟨.c (.ptr hn0),?_,by rw[k4,PN];omega⟩
  intro p hp;rcases Nz.1 hp with rfl | hp
  ·exact⟨0,rfl,by simp,rfl,bx.1,bx.2,arr,e,hn0,h1,k1.symm,k2⟩
  ·obtain⟨j,q1,q2,q3⟩:=k3 p hp
   exact⟨j+1,by omega,by simp only[PN];omega,q3⟩
 | row t arr=>
  obtain⟨pl,rfl,rfl,h1,h2⟩:=h;have hn0:g.ids c=some pl:=hn 0 _ rfl;simp only[O5];refine⟨zr h1 hn0 h2,?_,rfl⟩;intro p hp;rw[Lb]at hp;subst hp
  exact⟨0,rfl,by simp,ke,qt h1 hn0⟩
theorem si:∀{ks:List Kd}{a:HL F ks}{vs:List Value}{LJ:List Pl} {Me:List Pl} {c:Nat},db P w g.Li ks a vs LJ Me→Pm g c LJ→
  MF P g w (NV ks a c).1 vs∧Laid g w c LJ.length (NV ks a c).2.1∧(NV ks a c).2.2=c+LJ.length∧(aU ks a c).map g.ids=Me.map some
 | [],a,vs,LJ,Me,c,h,hn=>by
  obtain⟨rfl,rfl,rfl⟩:=h
  exact⟨⟨rfl,by simp[NV]⟩,λp hp=>by simp[NV]at hp,rfl,rfl⟩
 | k::ks,a,vs,LJ,Me,c,h,hn=>by
  cases hk:k.Ur with
  | true=>
   cases k with
   | cl f n=>
    obtain⟨us,vs',rfl,hl,h2⟩:=h;obtain⟨l1,l2,l3,l4⟩:=si (c:=c) h2 hn;simp only[NV]
    exact⟨Gm hl l1,l2,l3,by simp only[aU,O5];exact l4⟩
   | _=>cases hk
  | false=>
  obtain⟨v,vs',p1,p2,b1,b2,rfl,rfl,rfl,h1,h2⟩:=pd hk h;rw[Du hk];obtain⟨k1,k2,k3⟩:=dv (c:=c) h1 hn.left;obtain⟨l1,l2,l3,l4⟩:=si (c:=c+p1.length) h2 hn.right;rw[k3];dsimp only
  refine⟨aZ.2 ⟨k1,l1⟩,by rw[La];exact k2.append l2,by rw[l3,La];omega,?_⟩
  have hb:(aU (k::ks) a c).map g.ids=b1.map some++(aU ks a.2 (c+p1.length)).map g.ids:=by
   cases k with
   | box t ow=>obtain⟨bx,rest,rfl,rfl,_⟩:=h1;have hn0:g.ids c=some (some (Vq bx)):=hn 0 _ rfl;simp only[aU,k3,M9,hn0,Oi,QfZ]
   | v t ow=>have:=h1.2;subst this;simp only[aU,k3,Oi,PE]
   | rp t=>have:=h1.2.1;subst this;simp only[aU,k3,Oi,PE]
   | fn ks' r=>have:=h1.2.1;subst this;simp only[aU,k3,Oi,PE]
   | TD t=>have:=h1.2.1;subst this;simp only[aU,k3,Oi,PE]
   | pk k t=>have:=h1.2.1;subst this;simp only[aU,k3,Oi,PE]
   | ln t=>have:=h1.2.1;subst this;simp only[aU,k3,Oi,PE]
   | nb t ow=>obtain⟨_,_,rfl,_⟩:=h1;simp only[aU,k3,Oi,PE]
   | cl f n=>cases hk
   | row t arr=>obtain⟨pl,rfl,rfl,_⟩:=h1;have hn0:g.ids c=some pl:=hn 0 _ rfl;simp only[aU,k3,M9,hn0,Oi,QfZ]
  rw[hb,l4,UD]
end
set_option linter.unusedVariables false
set_option linter.unusedSimpArgs false
section
variable{F:Fam}{P:Program}{own:Ow}{g:G}{w:World}{m mm:Nat→Option (Mg F)}{Γ : Ctx F}
theorem cI{b:Nat}:∀{LJ:List Pl},b∈Lh LJ↔∃(j:Nat)(b0:Nat)(x:Nat×Nat×NS),LJ[j]? = some (some (b0,x))∧b∈b0::MO x.2.2
 | []=>by simp[Lh]
 | none::l=>by
  simp only[Lh,cI];constructor
  ·rintro⟨j,b0,x,h,h'⟩;exact⟨j+1,b0,x,by simpa using h,h'⟩
  ·rintro⟨j,b0,x,h,h'⟩
   cases j with
   | zero=>simp at h
   | succ j=>exact⟨j,b0,x,by simpa using h,h'⟩
 | some (b',y)::l=>by
  simp only[Lh];rw[← UF,OB,cI];constructor
  ·rintro(h | ⟨j,b0,x,h,h'⟩)
   ·exact⟨0,b',y,rfl,h⟩
   ·exact⟨j+1,b0,x,by simpa using h,h'⟩
  ·rintro⟨j,b0,x,h,h'⟩
   cases j with
   | zero=>simp only[PW,NJ,Prod.mk.injEq]at h;obtain⟨rfl,rfl⟩:=h;exact .inl h'
   | succ j=>exact .inr ⟨j,b0,x,by simpa using h,h'⟩
theorem mG{b:Nat}:∀{LJ:List Pl},(Lh LJ).Nodup→∀{j j' b0 b0':Nat}{x x':Nat×Nat×NS},LJ[j]? = some (some (b0,x))→b∈b0::MO x.2.2→LJ[j']? = some (some (b0',x'))→b∈b0'::MO x'.2.2→j=j'
 | [],_,j,j',b0,b0',x,x',h,_,h',_=>by simp at h
 | none::l,hn,j,j',b0,b0',x,x',h,hb,h',hb'=>by
  cases j with
  | zero=>simp at h
  | succ j=>
   cases j' with
   | zero=>simp at h'
   | succ j'=>exact congrArg (· + 1) (mG (LJ:=l) hn (by simpa using h) hb (by simpa using h') hb')
 | some (b',y)::l,hn,j,j',b0,b0',x,x',h,hb,h',hb'=>by
  simp only[Lh]at hn;rw[← UF]at hn;obtain⟨n1,n2,n3⟩:=Yo.1 hn
  cases j with
  | zero=>
   cases j' with
   | zero=>rfl
   | succ j'=>
    simp only[PW,NJ,Prod.mk.injEq]at h;obtain⟨rfl,rfl⟩:=h
    exact absurd rfl (n3 b hb b (cI.2 ⟨j',b0',x',by simpa using h',hb'⟩))
  | succ j=>
   cases j' with
   | zero=>
    simp only[PW,NJ,Prod.mk.injEq]at h';obtain⟨rfl,rfl⟩:=h'
    exact absurd rfl (n3 b hb' b (cI.2 ⟨j,b0,x,by simpa using h,hb⟩))
   | succ j'=>exact congrArg (· + 1) (mG (LJ:=l) n2 (by simpa using h) hb (by simpa using h') hb')
theorem aM:∀{p q:List Pl},Lh (p++q)=Lh p++Lh q
 | [],q=>rfl
 | none::p,q=>by simp only[UF,Lh,aM]
 | some (b,x)::p,q=>by simp only[UF,Lh,aM,P5]
def SF(g:G)(w:World)(c n:Nat)(bx:List Nat)(bs:List (Nat×Mg F)):Prop:=∀p∈bs,p.2.owned=true∧Na g w p.1 p.2∧((∃j,p.1=c+j∧j<n)∨p.1∈bx)
theorem Laid.back{c n:Nat}{bs:List (Nat×Mg F)}(h:Laid g w c n bs):SF g w c n [] bs:=by intro p hp;obtain⟨j,h1,h2,h3,h4⟩:=h p hp;exact⟨h3,h4,.inl ⟨j,h1,h2⟩⟩
theorem SF.append{c n1 n2:Nat}{x1 x2:List Nat}{b1 b2:List (Nat×Mg F)}(h1:SF g w c n1 x1 b1)(h2:SF g w (c+n1) n2 x2 b2):SF g w c (n1+n2) (x1++x2) (b1++b2):=by
 intro p hp;rcases OB.1 hp with hp | hp
 ·obtain⟨k1,k2,⟨j,k3,k4⟩ | k3⟩:=h1 p hp
  ·exact⟨k1,k2,.inl ⟨j,k3,by omega⟩⟩
  ·exact⟨k1,k2,.inr (by simp[k3])⟩
 ·obtain⟨k1,k2,⟨j,k3,k4⟩ | k3⟩:=h2 p hp
  ·exact⟨k1,k2,.inl ⟨n1+j,by omega,by omega⟩⟩
  ·exact⟨k1,k2,.inr (by simp[k3])⟩
theorem vF{t:Ty}{ow:List Nat}{x:ET F t}{bx:Nat×Nat×Nat}{b c:Nat}{LJ:List Pl}(h:Ua w g.Li t ow x bx.1 LJ)(hb:g.ids b=some (some (Vq bx)))(hn:Pm g c LJ) :
  SF g w c LJ.length [b] ((b,.box (OO ow 0 c (LZ F t x)).1)::(OO ow 0 c (LZ F t x)).2.1)∧(OO ow 0 c (LZ F t x)).2.2=c+LJ.length:=by
 obtain⟨arr,e,h1,h2⟩:=h;obtain⟨k1,k2,k3,k4,_⟩:=mM (c:=c) h2 hn;refine⟨?_,k4⟩;intro p hp;rcases Nz.1 hp with rfl | hp
 ·exact⟨rfl,⟨bx.1,bx.2,arr,e,hb,h1,k1.symm,k2⟩,.inr (by simp)⟩
 ·obtain⟨j,q1,q2,q3,q4⟩:=k3 p hp;exact⟨q3,q4,.inl ⟨j,q1,q2⟩⟩
theorem lR{α β : Type}{f:α→β}{l:List α}{y:β}{r:List β}(h:l.map f=y::r):∃x l',l=x::l'∧f x=y∧l'.map f=r:=by
 cases l with
 | nil=>simp at h
 | cons x l'=>simp only[M9,QgN]at h;exact⟨x,l',rfl,h.1,h.2⟩
theorem fL:∀{ks:List Kd}{a:TL F ks}{vs:List Value}{Me:List Pl} {LJ:List Pl} {bx:List Nat} {c:Nat},eE P w g.Li ks a vs Me LJ→Pm g c LJ→bx.map g.ids=Me.map some→
  MF P g w (aw ks a bx c).1 vs∧SF g w c LJ.length bx (aw ks a bx c).2.1∧(aw ks a bx c).2.2=c+LJ.length
 | [],a,vs,Me,LJ,bx,c,h,hn,hb=>by
  obtain⟨rfl,rfl,rfl⟩:=h
  exact⟨⟨rfl,by simp[aw]⟩,λp hp=>by simp[aw]at hp,rfl⟩
 | [.box t ow],a,vs,Me,LJ,bx,c,h,hn,hb=>by
  obtain⟨b,rfl,rfl,h⟩:=h;obtain⟨i,bx',rfl,h1,h2⟩:=lR hb
  have:bx' = []:=by simpa using h2
  subst this;obtain⟨k1,k2⟩:=vF h h1 hn
  exact⟨⟨rfl,by simp[aw]⟩,by simpa[aw]using k1,by simpa[aw]using k2⟩
 | [.row t arr],a,vs,Me,LJ,bx,c,h,hn,hb=>by
  obtain⟨pl,rfl,rfl,h,rfl⟩:=h;obtain⟨i,bx',rfl,h1,h2⟩:=lR hb
  have:bx' = []:=by simpa using h2
  subst this
  refine⟨⟨rfl,by simp[aw]⟩,?_,rfl⟩
  intro p hp;simp only[aw,Lb]at hp;subst hp
  exact⟨ke,qt h h1,.inr (by simp)⟩
 | .row t arr::l::ks,a,vs,Me,LJ,bx,c,h,hn,hb=>by
  obtain⟨pl,Rz,rfl,h1,h2⟩:=h;obtain⟨i,bx',rfl,h3,h4⟩:=lR hb;obtain⟨l1,l2,l3⟩:=fL (c:=c) h2 hn h4;simp only[aw];refine⟨l1,?_,l3⟩;intro p hp;rcases Nz.1 hp with rfl | hp
  ·exact⟨ke,qt h1 h3,.inr (by simp)⟩
  ·obtain⟨q1,q2,q3⟩:=l2 p hp
   exact⟨q1,q2,q3.imp id (λh=>by simp[h])⟩
 | [.v t ow],a,vs,Me,LJ,bx,c,h,hn,hb=>by
  obtain⟨v,rfl,rfl,h⟩:=h;obtain⟨k1,k2,k3⟩:=dv (c:=c) h hn
  have:bx = []:=by simpa using hb
  subst this
  exact⟨⟨rfl,λk d x h1 h2=>by cases k with | zero=>simp[aw]at h1 h2;subst h1 h2;exact k1 | succ k=>simp[aw]at h1⟩,by simpa[aw]using k2.back,by simpa[aw]using k3⟩
 | [.cl f n],a,vs,Me,LJ,bx,c,h,hn,hb=>by obtain⟨v,rfl,rfl,h⟩:=h;exact h.elim
 | .cl f n::l::ks,a,vs,Me,LJ,bx,c,h,hn,hb=>by obtain⟨v,vs',p1,p2,rfl,rfl,h1,h2⟩:=h;exact h1.elim
 | [.rp t],a,vs,Me,LJ,bx,c,h,hn,hb=>by
  obtain⟨v,rfl,rfl,h⟩:=h;obtain⟨k1,k2,k3⟩:=dv (c:=c) h hn
  have:bx = []:=by simpa using hb
  subst this
  exact⟨⟨rfl,λk d x h1 h2=>by cases k with | zero=>simp[aw]at h1 h2;subst h1 h2;exact k1 | succ k=>simp[aw]at h1⟩,by simpa[aw]using k2.back,by simpa[aw]using k3⟩
 | [.TD t],a,vs,Me,LJ,bx,c,h,hn,hb=>by
  obtain⟨v,rfl,rfl,h⟩:=h;obtain⟨k1,k2,k3⟩:=dv (c:=c) h hn
  have:bx = []:=by simpa using hb
  subst this
  exact⟨⟨rfl,λk d x h1 h2=>by cases k with | zero=>simp[aw]at h1 h2;subst h1 h2;exact k1 | succ k=>simp[aw]at h1⟩,by simpa[aw]using k2.back,by simpa[aw]using k3⟩
 | [.pk k0 t],a,vs,Me,LJ,bx,c,h,hn,hb=>by
  obtain⟨v,rfl,rfl,h⟩:=h;obtain⟨k1,k2,k3⟩:=dv (c:=c) h hn
  have:bx = []:=by simpa using hb
  subst this
  exact⟨⟨rfl,λk d x h1 h2=>by cases k with | zero=>simp[aw]at h1 h2;subst h1 h2;exact k1 | succ k=>simp[aw]at h1⟩,by simpa[aw]using k2.back,by simpa[aw]using k3⟩
 | [.ln t],a,vs,Me,LJ,bx,c,h,hn,hb=>by
  obtain⟨v,rfl,rfl,h⟩:=h;obtain⟨k1,k2,k3⟩:=dv (c:=c) h hn
  have:bx = []:=by simpa using hb
  subst this
  exact⟨⟨rfl,λk d x h1 h2=>by cases k with | zero=>simp[aw]at h1 h2;subst h1 h2;exact k1 | succ k=>simp[aw]at h1⟩,by simpa[aw]using k2.back,by simpa[aw]using k3⟩
 | [.nb t ow],a,vs,Me,LJ,bx,c,h,hn,hb=>by
  obtain⟨v,rfl,rfl,h⟩:=h;obtain⟨k1,k2,k3⟩:=dv (c:=c) h hn
  have:bx = []:=by simpa using hb
  subst this
  exact⟨⟨rfl,λk d x h1 h2=>by cases k with | zero=>simp[aw]at h1 h2;subst h1 h2;exact k1 | succ k=>simp[aw]at h1⟩,by simpa[aw]using k2.back,by simpa[aw]using k3⟩
 | [.fn ks r],a,vs,Me,LJ,bx,c,h,hn,hb=>by
  obtain⟨v,rfl,rfl,h⟩:=h;obtain⟨k1,k2,k3⟩:=dv (c:=c) h hn
  have:bx = []:=by simpa using hb
  subst this
  exact⟨⟨rfl,λk d x h1 h2=>by cases k with | zero=>simp[aw]at h1 h2;subst h1 h2;exact k1 | succ k=>simp[aw]at h1⟩,by simpa[aw]using k2.back,by simpa[aw]using k3⟩
 | .box t ow::l::ks,a,vs,Me,LJ,bx,c,h,hn,hb=>by
  obtain⟨b,Rz,p1,p2,rfl,rfl,h1,h2⟩:=h;obtain⟨i,bx',rfl,h3,h4⟩:=lR hb;obtain⟨k1,k2⟩:=vF h1 h3 hn.left;obtain⟨l1,l2,l3⟩:=fL (c:=c+p1.length) h2 hn.right h4;simp only[aw];rw[k2]
  refine⟨l1,?_,by rw[l3,La];omega⟩
  rw[La];have:=k1.append l2;simpa using this
 | .v t ow::l::ks,a,vs,Me,LJ,bx,c,h,hn,hb=>by
  obtain⟨v,vs',p1,p2,rfl,rfl,h1,h2⟩:=h;obtain⟨k1,k2,k3⟩:=dv (c:=c) h1 hn.left;obtain⟨l1,l2,l3⟩:=fL (c:=c+p1.length) h2 hn.right hb;simp only[aw];rw[k3]
  refine⟨aZ.2 ⟨k1,l1⟩,?_,by rw[l3,La];omega⟩
  rw[La];simpa using k2.back.append l2
 | .rp t::l::ks,a,vs,Me,LJ,bx,c,h,hn,hb=>by
  obtain⟨v,vs',p1,p2,rfl,rfl,h1,h2⟩:=h;obtain⟨k1,k2,k3⟩:=dv (c:=c) h1 hn.left;obtain⟨l1,l2,l3⟩:=fL (c:=c+p1.length) h2 hn.right hb;simp only[aw];rw[k3]
  refine⟨aZ.2 ⟨k1,l1⟩,?_,by rw[l3,La];omega⟩
  rw[La];simpa using k2.back.append l2
 | .TD t::l::ks,a,vs,Me,LJ,bx,c,h,hn,hb=>by
  obtain⟨v,vs',p1,p2,rfl,rfl,h1,h2⟩:=h;obtain⟨k1,k2,k3⟩:=dv (c:=c) h1 hn.left;obtain⟨l1,l2,l3⟩:=fL (c:=c+p1.length) h2 hn.right hb;simp only[aw];rw[k3]
  refine⟨aZ.2 ⟨k1,l1⟩,?_,by rw[l3,La];omega⟩
  rw[La];simpa using k2.back.append l2
 | .pk k0 t::l::ks,a,vs,Me,LJ,bx,c,h,hn,hb=>by
  obtain⟨v,vs',p1,p2,rfl,rfl,h1,h2⟩:=h;obtain⟨k1,k2,k3⟩:=dv (c:=c) h1 hn.left;obtain⟨l1,l2,l3⟩:=fL (c:=c+p1.length) h2 hn.right hb;simp only[aw];rw[k3]
  refine⟨aZ.2 ⟨k1,l1⟩,?_,by rw[l3,La];omega⟩
  rw[La];simpa using k2.back.append l2
 | .ln t::l::ks,a,vs,Me,LJ,bx,c,h,hn,hb=>by
  obtain⟨v,vs',p1,p2,rfl,rfl,h1,h2⟩:=h;obtain⟨k1,k2,k3⟩:=dv (c:=c) h1 hn.left;obtain⟨l1,l2,l3⟩:=fL (c:=c+p1.length) h2 hn.right hb;simp only[aw];rw[k3]
  refine⟨aZ.2 ⟨k1,l1⟩,?_,by rw[l3,La];omega⟩
  rw[La];simpa using k2.back.append l2
 | .nb t ow::l::ks,a,vs,Me,LJ,bx,c,h,hn,hb=>by
  obtain⟨v,vs',p1,p2,rfl,rfl,h1,h2⟩:=h;obtain⟨k1,k2,k3⟩:=dv (c:=c) h1 hn.left;obtain⟨l1,l2,l3⟩:=fL (c:=c+p1.length) h2 hn.right hb;simp only[aw];rw[k3]
  refine⟨aZ.2 ⟨k1,l1⟩,?_,by rw[l3,La];omega⟩
  rw[La];simpa using k2.back.append l2
 | .fn ks' r::l::ks,a,vs,Me,LJ,bx,c,h,hn,hb=>by
  obtain⟨v,vs',p1,p2,rfl,rfl,h1,h2⟩:=h;obtain⟨k1,k2,k3⟩:=dv (c:=c) h1 hn.left;obtain⟨l1,l2,l3⟩:=fL (c:=c+p1.length) h2 hn.right hb;simp only[aw];rw[k3]
  refine⟨aZ.2 ⟨k1,l1⟩,?_,by rw[l3,La];omega⟩
  rw[La];simpa using k2.back.append l2
theorem rO{Li LX:Nat→Prop}:∀{ds:List (ND F)} {k:Nat} {vs:List Value} {LJ:List Pl},(∀d∈ds,d.flat=true)→MG w Li [] k ds vs LJ→MG w LX [] k ds vs LJ
 | [],k,vs,LJ,_,h=>by cases vs<;>simp_all [MG]
 | d::ds,k,vs,LJ,hf,h=>by
  cases vs with
  | nil=>simp[MG]at h
  | cons v vs=>
   simp only[MG,Mf,RZ,if_false]at h ⊢
   exact⟨h.1.flat (hf d (by simp)),rO (λd hd=>hf d (by simp[hd])) h.2⟩
theorem v6{t:Ty}(hf:je F t=true){l:List (ET F t)}:∀d∈cells F t l,d.flat=true:=by intro d hd;simp only[cells,List.mem_flatten,Ra]at hd;obtain⟨_,⟨x,_,rfl⟩,hd⟩:=hd;exact qh hf x d hd
theorem xW{Li LX:Nat→Prop}{t:Ty}{l:List (ET F t)}{pl:Pl}(hf:je F t=true)(hm:t.Ny=false)(h:OG w Li t l pl):OG w LX t l pl:=by
 rw[nj hm]at h ⊢
 cases pl with
 | none=>exact h
 | some q=>obtain⟨q1,q2,q3,cur,e,q4,q5,q6⟩:=h;exact⟨q1,q2,q3,cur,e,q4,q5,λk d z a b=>(q6 k d z a b).flat (v6 hf d (Wu a))⟩
theorem qv{Li LX:Nat→Prop}{ow:List Nat}:∀{ts:List Ty}{a:M7 F ts}{k:Nat}{vs:List Value} {LJ:List Pl},uy F ow k ts=true→MG w Li ow k (OU F ts a) vs LJ→MG w LX ow k (OU F ts a) vs LJ
 | [],a,k,vs,LJ,_,h=>by cases vs<;>simp_all [OU,MG]
 | t::ts,a,k,vs,LJ,hf,h=>by
  simp only[uy,Np]at hf
  cases vs with
  | nil=>simp[OU,MG]at h
  | cons v vs=>
   simp only[OU,MG]at h ⊢
   cases t with
   | slice e=>
    simp only[Np]at hf;rw[if_pos hf.1.1.1]at h ⊢;simp only[enc1]at h ⊢;obtain⟨pl,rest,k1,k2,k3,k4⟩:=h
    exact⟨pl,rest,k1,xW hf.1.1.2 (by simpa using hf.1.2) k2,k3,qv hf.2 k4⟩
   | st n=>simp at hf
   | int kk=>
    simp only[enc1]at h ⊢;split at h
    ·exact h.elim
    ·split at h
     ·exact h.elim
     ·rename_i h1 h2;rw[if_neg h1,if_neg h2];exact⟨h.1.flat rfl,qv hf.2 h.2⟩
   | bool=>
    simp only[enc1]at h ⊢;split at h
    ·exact h.elim
    ·split at h
     ·exact h.elim
     ·rename_i h1 h2;rw[if_neg h1,if_neg h2];exact⟨h.1.flat rfl,qv hf.2 h.2⟩
   | str=>
    simp only[enc1]at h ⊢;split at h
    ·exact h.elim
    ·split at h
     ·exact h.elim
     ·rename_i h1 h2;rw[if_neg h1,if_neg h2];exact⟨h.1.flat rfl,qv hf.2 h.2⟩
theorem yr{Li LX:Nat→Prop}{k:Kd}(hf:k.M4 F=true){x:k.El F}{v:Value}{LJ:List Pl}{Me:List Pl}(h:Held P w Li k x v LJ Me):Held P w LX k x v LJ Me:=by
 cases k with
 | box=>simp[Kd.M4]at hf
 | rp=>simp[Kd.M4]at hf
 | fn=>simp[Kd.M4]at hf
 | row=>simp[Kd.M4]at hf
 | TD=>simp[Kd.M4]at hf
 | pk=>simp[Kd.M4]at hf
 | ln=>simp[Kd.M4]at hf
 | nb=>simp[Kd.M4]at hf
 | cl=>simp[Kd.M4]at hf
 | v t ow=>
  obtain⟨h1,h2⟩:=h;refine⟨?_,h2⟩
  cases ow with
  | nil=>
   simp only[Kd.M4]at hf;unfold NH at h1 ⊢;split
   ·rename_i hs;rw[if_pos hs]at h1;obtain⟨vs,k1,k2⟩:=h1;exact⟨vs,k1,rO (qh hf x) k2⟩
   ·rename_i hs;rw[if_neg hs]at h1;exact rO (qh hf x) h1
  | cons y ow=>
   cases t with
   | slice t=>
    simp only[Kd.M4,Np]at hf;unfold NH at h1 ⊢;simp only[Ty.OP,RZ,if_false,LZ,MG,hf.1.1,if_true]at h1 ⊢;obtain⟨pl,rest,k1,k2,k3,k4⟩:=h1
    exact⟨pl,rest,k1,xW hf.1.2 (by simpa using hf.2) k2,k3,k4⟩
   | int=>simp[Kd.M4]at hf
   | bool=>simp[Kd.M4]at hf
   | str=>simp[Kd.M4]at hf
   | st n=>simp only[Kd.M4,Np]at hf;unfold NH at h1 ⊢;simp only[Ty.OP,if_true]at h1 ⊢;obtain⟨vs,k1,k2⟩:=h1;exact⟨vs,k1,qv hf.2 k2⟩
theorem sK{Li LX:Nat→Prop}:∀{ks:List Kd}{a:TL F ks}{vs:List Value}{Me:List Pl} {LJ:List Pl},ks.all (Kd.M4 F)=true→eE P w Li ks a vs Me LJ→eE P w LX ks a vs Me LJ
 | [],a,vs,Me,LJ,hf,h=>h
 | [.box t ow],a,vs,Me,LJ,hf,h=>by simp[Kd.M4]at hf
 | [.v t ow],a,vs,Me,LJ,hf,h=>by simp only[Z4,List.all_nil,QgH]at hf;obtain⟨v,h1,h2,h3⟩:=h;exact⟨v,h1,h2,yr hf h3⟩
 | [.rp t],a,vs,Me,LJ,hf,h=>by simp[Kd.M4]at hf
 | [.fn t r],a,vs,Me,LJ,hf,h=>by simp[Kd.M4]at hf
 | [.TD t],a,vs,Me,LJ,hf,h=>by simp[Kd.M4]at hf
 | [.pk k0 t],a,vs,Me,LJ,hf,h=>by simp[Kd.M4]at hf
 | [.ln t],a,vs,Me,LJ,hf,h=>by simp[Kd.M4]at hf
 | [.nb t ow],a,vs,Me,LJ,hf,h=>by simp[Kd.M4]at hf
 | [.row t r],a,vs,Me,LJ,hf,h=>by simp[Kd.M4]at hf
 | [.cl f n],a,vs,Me,LJ,hf,h=>by simp[Kd.M4]at hf
 | .cl f n::l::ks,a,vs,Me,LJ,hf,h=>by simp[Kd.M4]at hf
 | .box t ow::l::ks,a,vs,Me,LJ,hf,h=>by simp[Kd.M4]at hf
 | .v t ow::l::ks,a,vs,Me,LJ,hf,h=>by
  simp only[Z4,Np]at hf;obtain⟨v,vs',p1,p2,h1,h2,h3,h4⟩:=h
  exact⟨v,vs',p1,p2,h1,h2,yr hf.1 h3,sK (by simpa using hf.2) h4⟩
 | .rp t::l::ks,a,vs,Me,LJ,hf,h=>by simp[Kd.M4]at hf
 | .fn t r::l::ks,a,vs,Me,LJ,hf,h=>by simp[Kd.M4]at hf
 | .TD t::l::ks,a,vs,Me,LJ,hf,h=>by simp[Kd.M4]at hf
 | .pk k0 t::l::ks,a,vs,Me,LJ,hf,h=>by simp[Kd.M4]at hf
 | .ln t::l::ks,a,vs,Me,LJ,hf,h=>by simp[Kd.M4]at hf
 | .nb t ow::l::ks,a,vs,Me,LJ,hf,h=>by simp[Kd.M4]at hf
 | .row t r::l::ks,a,vs,Me,LJ,hf,h=>by simp[Kd.M4]at hf
end
set_option linter.unusedVariables false
set_option linter.unusedSimpArgs false
section
variable{F:Fam}{P:Program}{own:Ow}{g g1:G}{w:World}{m m1 mm:Nat→Option (Mg F)}{Γ : Ctx F}{o:Oper}{a:Act}{c:Nat}
theorem jm:∀{l:List Nat},d9 l=true→l.Nodup
 | [],_=>Z6
 | x::l,h=>by
  simp only[d9,Np,U3]at h;refine Ug.2 ⟨λhx=>?_,jm h.2⟩;rw[aN.2 hx]at h
  exact absurd h.1 (by simp)
theorem nM:∀{l r:List Nat},RU l r=true→∀x∈l,x∉r
 | [],r,_,x,hx=>by simp at hx
 | y::l,r,h,x,hx=>by
  simp only[RU,Np,U3]at h;rcases Nz.1 hx with rfl | hx
  ·intro hr;rw[aN.2 hr]at h
   exact absurd h.1 (by simp)
  ·exact nM h.2 x hx
theorem fT{id:Nat}:∀{l:List (Option Nat)},id∈Mq l↔some id∈l
 | []=>by simp[Mq]
 | some x::l=>by simp[Mq,fT]
 | none::l=>by simp[Mq,fT]
theorem G.blk_iff{g:G}{id b:Nat}{b0:Nat}{c:Nat×Nat×NS}(h:g.ids id=some (some (b0,c))):g.blk id b↔b∈b0::MO c.2.2:=by
 constructor
 ·rintro⟨b1,c1,h1,h2⟩;rw[h]at h1;cases h1;exact h2
 ·exactλhb=>⟨b0,c,h,hb⟩
theorem G.aaF{g:G}{id b:Nat}(h:g.ids id=none):¬ g.blk id b:=by rintro⟨b1,c1,h1,_⟩;rw[h]at h1;cases h1
theorem cg{b:Nat}:∀{os:List (Option Nat)},b∈Lh (os.map (Mi g))↔∃id,some id∈os∧g.blk id b
 | []=>by simp[Lh]
 | none::os=>by simp[Lh,Mi,cg]
 | some i::os=>by
  simp only[M9,Nz,NJ]
  cases hi:g.ids i with
  | none=>
   simp only[Mi,hi,Option.getD_none,Lh,cg];constructor
   ·rintro⟨id,h,k⟩;exact⟨id,.inr h,k⟩
   ·rintro⟨id,rfl | h,k⟩
    ·exact(G.aaF hi k).elim
    ·exact⟨id,h,k⟩
  | some q=>
   cases q with
   | none=>
    simp only[Mi,hi,Ws,Lh,cg];constructor
    ·rintro⟨id,h,k⟩;exact⟨id,.inr h,k⟩
    ·rintro⟨id,rfl | h,k⟩
     ·exact(G.Vj hi k).elim
     ·exact⟨id,h,k⟩
   | some q=>
    obtain⟨b',x⟩:=q;simp only[Mi,hi,Ws,Lh];rw[← UF,OB,cg];constructor
    ·rintro(h | ⟨id,h,k⟩)
     ·exact⟨i,.inl rfl,(G.blk_iff hi).2 h⟩
     ·exact⟨id,.inr h,k⟩
    ·rintro⟨id,rfl | h,k⟩
     ·exact .inl ((G.blk_iff hi).1 k)
     ·exact .inr ⟨id,h,k⟩
theorem kh(hm:LQ own g w m):∀{os:List (Option Nat)},(Mq os).Nodup→(∀id,some id∈os→∃B,m id=some B∧B.owned=true)→(Lh (os.map (Mi g))).Nodup
 | [],_,_=>by simp[Lh]
 | none::os,h,k=>by
  simp only[M9,Mi,Lh]
  exact kh hm h (λid hid=>k id (by simp[hid]))
 | some i::os,h,k=>by
  simp only[Mq,Ug]at h
  have ih:=kh hm h.2 (λid hid=>k id (by simp[hid]))
  simp only[M9]
  cases hp:Mi g (some i)with
  | none=>simpa[Lh]using ih
  | some q=>
   obtain⟨b,x⟩:=q
   have hi:g.ids i=some (some (b,x)):=by
    simp only[Mi]at hp
    cases hg:g.ids i with
    | none=>rw[hg]at hp;cases hp
    | some q=>rw[hg]at hp;simp only[Ws]at hp;subst hp;rfl
   obtain⟨B,k1,k2⟩:=k i (by simp)
   simp only[Lh];rw[← UF,Yo];refine⟨?_,ih,?_⟩
   ·have hok:=hm.ok i B k1
    cases B with
    | box cs=>obtain⟨b',c',_,_,h1,_⟩:=hok;rw[hi]at h1;cases h1;simp[MO]
    | row t l=>rcases hok with⟨h1,_⟩ | ⟨b',cap,cur,e,h1,_⟩<;>(rw[hi]at h1;cases h1);simp[MO]
    | Nc t l=>obtain⟨pl,h1,h2⟩:=hok;rw[hi]at h1;cases h1;exact h2.2.2.2.2.1
    | Tc t l=>cases k2
    | ZM cs=>cases k2
    | mp t l=>obtain⟨b',h1,_⟩:=hok;rw[hi]at h1;cases h1;simp[MO]
    | it ob=>obtain⟨b',h1,_⟩:=hok;rw[hi]at h1;cases h1;simp[MO]
    | Pq k n=>cases k2
    | Sr t l i ks=>obtain⟨pl,h1,h2⟩:=hok;rw[hi]at h1;cases h1;exact h2.2.2.2.2.1
    | NU t l j=>obtain⟨pl,h1,h2⟩:=hok;rw[hi]at h1;cases h1;exact h2.2.2.2.2.1
   ·rintro b1 hb1 b2 hb2 rfl;obtain⟨id,h1,h2⟩:=cg.1 hb2
    obtain⟨B',k3,k4⟩:=k id (by simp[h1])
    have:=hm.SX i id B B' b1 k1 k3 k2 k4 ((G.blk_iff hi).2 hb1) h2;subst this;exact h.1 (fT.2 h1)
theorem Na.named{id:Nat}{B:Mg F}(h:Na g w id B):g.ids id≠none:=by
 intro hn
 cases B with
 | box cs=>obtain⟨b,c,_,_,h,_⟩:=h;rw[hn]at h;cases h
 | row t l=>rcases h with⟨h,_⟩ | ⟨_,_,_,_,h,_⟩<;>(rw[hn]at h;cases h)
 | Nc t l=>obtain⟨pl,h,_⟩:=h;rw[hn]at h;cases h
 | Tc t l=>rcases h with⟨h,_⟩ | ⟨_,_,_,h,_⟩<;>(rw[hn]at h;cases h)
 | ZM cs=>obtain⟨_,_,h,_⟩:=h;rw[hn]at h;cases h
 | mp t l=>obtain⟨_,h,_⟩:=h;rw[hn]at h;cases h
 | it ob=>obtain⟨_,h,_⟩:=h;rw[hn]at h;cases h
 | Pq k n=>rcases h with⟨_,_,_,_,h,_⟩ | ⟨h,_⟩<;>(rw[hn]at h;cases h)
 | Sr t l i ks=>obtain⟨pl,h,_⟩:=h;rw[hn]at h;cases h
 | NU t l j=>obtain⟨pl,h,_⟩:=h;rw[hn]at h;cases h
theorem vU{x:Nat}:∀{l:List Nat}{m:Nat→Option (Mg F)},x∈l→Ml m (nones l) x=none:=by
 intro l
 have key:∀(l:List Nat)(m:Nat→Option (Mg F)),m x=none→Ml m (nones l) x=none:=by
  intro l
  induction l with
  | nil=>intro m h;exact h
  | cons y l ih=>
   intro m h;simp only[nones,M9,Ml];refine ih _ ?_
   split<;>first | rfl | exact h
 induction l with
 | nil=>intro m h;simp at h
 | cons y l ih=>
  intro m h;simp only[nones,M9,Ml];rcases Nz.1 h with rfl | h
  ·exact key l _ (by simp)
  ·exact ih h
theorem sH{x:Nat}{B:Mg F}:∀{bs:List (Nat×Mg F)} {m:Nat→Option (Mg F)},Ml m (blks bs) x=some B→(x,B)∈bs∨(x∉bs.map (·.1)∧m x=some B)
 | [],m,h=>.inr ⟨by simp,h⟩
 | (y,C)::bs,m,h=>by
  simp only[blks,M9,Ml]at h;rcases sH (bs:=bs) h with h | ⟨h1,h2⟩
  ·exact .inl (by simp[h])
  ·by_cases hxy:y=x
   ·subst hxy;simp only[bC,if_true,NJ]at h2;subst h2
    exact .inl (by simp)
   ·rw[ao hxy]at h2;simp only[RZ,if_false]at h2
    exact .inr ⟨by simp only[M9,Nz,not_or];exact⟨λe=>hxy e.symm,h1⟩,h2⟩
def G.back(g:G)(c:Nat)(LJ:List Pl)(I:Nat→Prop):G:=⟨λx=>if c≤x∧x<c+LJ.length then LJ[x - c]? else g.ids x,I,g.len⟩
theorem uo{LJ:List Pl}{I:Nat→Prop}:Pm (g.back c LJ I) c LJ:=by
 intro j pl hj;have hlt:=(K_.1 hj).1;simp only[G.back]
 rw[if_pos ⟨by omega,by omega⟩,QfP]
 exact hj
theorem ef{LJ:List Pl}{I:Nat→Prop}{x:Nat}(h:¬ (c≤x∧x<c+LJ.length)):(g.back c LJ I).ids x=g.ids x:=by simp only[G.back];rw[if_neg h]
theorem CK{ds:List (Dat F)}{vs:List Value}(h:MF P g w ds vs):Ma P g w (Wz ds) (U6 vs):=by
 match ds,vs,h with
 | [d],[v],h=>exact Nw h
 | [],[],h=>exact .Pp rfl (by simp)
 | d::e::ds,v::x::vs,h=>exact .Pp h.1 h.2
 | [],v::vs,h=>exact absurd h.1 (by simp)
 | [d],[],h=>exact absurd h.1 (by simp)
 | [d],v::x::vs,h=>exact absurd h.1 (by simp)
 | d::e::ds,[],h=>exact absurd h.1 (by simp)
 | d::e::ds,[v],h=>exact absurd h.1 (by simp)
theorem m0{bx:List Nat}{Me:List Pl}(h:bx.map g.ids=Me.map some){id:Nat}(hi:id∈bx):∃q∈Me,g.ids id=some q:=by
 have:g.ids id∈Me.map some:=by rw[← h];exact QdX hi
 obtain⟨q,h1,h2⟩:=Ra.1 this;exact⟨q,h1,h2.symm⟩
theorem sg{b b0:Nat}{q:Nat×Nat×NS}{LJ:List Pl}(h:some (b0,q)∈LJ)(hb:b∈b0::MO q.2.2):b∈Lh LJ:=by obtain⟨j,hj⟩:=XT h;exact cI.2 ⟨j,b0,q,hj,hb⟩
theorem sn(hm:LQ own g w m)(hm1:LQ own g1 w m1)(h1i:g1.ids=g.ids)(h1l:g1.len=g.len)(hall:∀b,w.heap.size≤b→own.o b)
  {os:List (Option Nat)} {bx:List Nat} {Me:List Pl} {Mk:List Pl} {bs:List (Nat×Mg F)} {Ut LX I:Nat→Prop} {w':World} {Yq:List Pl} (aoI:Yq=os.map (Mi g))
  (hfr:∀k,k<Mk.length→g.ids (c+k)=none)
  (hos:∀id,some id∈os→∃B,m id=some B∧m1 id=some B∧B.owned=true) (hbx:∀id∈bx,some id∈os) (TN:bx.map g.ids=Me.map some)
  (hp:Sw w Ut (Lh Yq)) (h0:∀b,g1.Li b→Ut b)
  (hsz:w.heap.size≤w'.heap.size) (RH:∀b,b<w.heap.size→b∉Lh Yq→w'.heap[b]? = w.heap[b]?)
  (i1:∀b,g1.Li b→I b) (i2:∀b,I b→LX b) (i3:∀b,I b→g1.Li b∨b∈Lh Yq∨w.heap.size≤b) (i4:∀b,LX b→b<w'.heap.size)
  (hp':Sw w' LX (Lh Me++Lh Mk)) (hin:∀b∈Lh Me++Lh Mk,b∈Lh Yq∨w.heap.size≤b)
  (hbs:SF (g.back c Mk I) w' c Mk.length bx bs):LQ own (g.back c Mk I) w' (Ml m1 (nones (Mq os)++blks bs)):=by
 subst aoI
 have hno:∀{b:Nat},b∈Lh (os.map (Mi g))→∃id B,some id∈os∧g.blk id b∧m id=some B∧m1 id=some B∧B.owned=true:=by intro b hb;obtain⟨id,h1,h2⟩:=cg.1 hb;obtain⟨B,k1,k2,k3⟩:=hos id h1;exact⟨id,B,h1,h2,k1,k2,k3⟩
 have hkeys:∀id,id∈bs.map (·.1)→(c≤id∧id<c+Mk.length)∨id∈bx:=by
  intro id hid;obtain⟨p,hp,rfl⟩:=Ra.1 hid;obtain⟨_,_,⟨j,k1,k2⟩ | k⟩:=hbs p hp
  ·exact .inl ⟨by omega,by omega⟩
  ·exact .inr k
 have hout:∀{id:Nat},g.ids id≠none→¬ (c≤id∧id<c+Mk.length):=by
  intro id h hc
  exact h (by have:=hfr (id - c) (by omega);rwa [QeP hc.1]at this)
 have hsame:∀id,¬ (id∈Mq os∨(c≤id∧id<c+Mk.length))→∀B,Ml m1 (nones (Mq os)++blks bs) id=some B→m1 id=some B:=by
  intro id hid B hB;rw[dT]at hB
  ·exact hB
  ·intro hk;simp only[UD,OB]at hk;rcases hk with hk | hk
   ·simp only[nones,Yy,Ra,Function.comp]at hk;obtain⟨x,h1,h2⟩:=hk;subst h2;exact hid (.inl h1)
   ·have:id∈bs.map (·.1):=by simpa[blks,Function.comp_def]using hk
    rcases hkeys id this with h | h
    ·exact hid (.inr h)
    ·exact hid (.inl (fT.2 (hbx id h)))
 have hnotin:∀{id:Nat}{B:Mg F}{b:Nat},id∉Mq os→m1 id=some B→B.owned=true→g.blk id b→b∉Lh (os.map (Mi g))∧b<w.heap.size:=by
  intro id B b hid hB ho hb
  have hb1:g1.blk id b:=by obtain⟨b0,q,hq,hbb⟩:=hb;exact⟨b0,q,by rw[h1i];exact hq,hbb⟩
  refine⟨λhin=>?_,(hm1.ok id B hB).place hm1.Li (Mg.PU ho) hb1⟩;obtain⟨id',B',k1,k2,k3,k4,k5⟩:=hno hin
  have hb2:g1.blk id' b:=by obtain⟨b0,q,hq,hbb⟩:=k2;exact⟨b0,q,by rw[h1i];exact hq,hbb⟩
  have:=hm1.SX id id' B B' b hB k4 ho k5 hb1 hb2;subst this;exact hid (fT.2 k1)
 have hblk:∀{id b:Nat},¬ (c≤id∧id<c+Mk.length)→(g.back c Mk I).blk id b→g.blk id b:=by rintro id b h ⟨b0,q,hq,hbb⟩;rw[ef h]at hq;exact⟨b0,q,hq,hbb⟩
 refine hm1.O_ (S:=λid=>id∈Mq os∨(c≤id∧id<c+Mk.length)) ⟨?_,i1,?_,λb hb=>(show g.len b by rw[← h1l];exact hb),λb hb=>RH b (hm1.len b hb).2 (λhin=>by obtain⟨id,B,_,q2,q3,_,q5⟩:=hno hin;exact(hm1.len b hb).1 (hm.own id B b q3 q5 q2).1)⟩ hsame ?_ ?_ ?_ (λb hb=>i4 b (i2 b hb)) ?_ (λb hb=>⟨(hm.len b hb).1,UG (hm.len b hb).2 hsz⟩)
 ·intro id r hr;rw[h1i]at hr
  rw[ef (hout (by rw[hr];simp))]
  exact hr
 ·intro b hb;exact RH b (hm1.Li b hb) (λhin=>hp.Li b hin (h0 b hb))
 ·intro id hid;rw[ef (λh=>hid (.inr h)),h1i]
 ·intro id B b hid hB ho hb
  have hb':g.blk id b:=by obtain⟨b0,q,hq,hbb⟩:=hb;exact⟨b0,q,by rw[← h1i];exact hq,hbb⟩
  obtain⟨k1,k2⟩:=hnotin (λh=>hid (.inl h)) hB ho hb';refine⟨RH b k2 k1,λhI=>?_⟩;rcases i3 b hI with h | h | h
  ·exact(hm1.own id B b hB ho hb).2 h
  ·exact k1 h
  ·omega
 ·intro id B hid hB
  have hmem:(id,B)∈bs:=by
   rw[gU]at hB;rcases sH hB with h | ⟨h1,h2⟩
   ·exact h
   ·exfalso;by_cases hio:id∈Mq os
    ·rw[vU hio]at h2;cases h2
    ·rcases hid with h | h
     ·exact hio h
     ·rw[dT]at h2
      ·refine(hm1.ok id B h2).named ?_;rw[h1i]
       have:=hfr (id - c) (by omega)
       rwa [QeP h.1]at this
      ·simpa[nones,Function.comp_def]using hio
  obtain⟨ho,hok,hwh⟩:=hbs _ hmem;refine⟨hok,λb _ hb=>?_⟩
  have loc:∀{x:Nat},((c≤x∧x<c+Mk.length)∨x∈bx)→(g.back c Mk I).blk x b→((c≤x∧x<c+Mk.length)∧∃b0 q,Mk[x - c]? = some (some (b0,q))∧b∈b0::MO q.2.2)∨(x∈bx∧g.blk x b∧b∈Lh Me):=by
   intro x hx hxb;by_cases hr:c≤x∧x<c+Mk.length
   ·obtain⟨b0,q,hq,hbb⟩:=hxb;simp only[G.back]at hq;rw[if_pos hr]at hq;exact .inl ⟨hr,b0,q,hq,hbb⟩
   ·have hxx:=hx.resolve_left hr;have hb':=hblk hr hxb;obtain⟨q,hq1,hq2⟩:=m0 TN hxx;obtain⟨b0,q',hq',hbb⟩:=hb';rw[hq2]at hq';cases hq';exact .inr ⟨hxx,⟨b0,_,hq2,hbb⟩,sg hq1 hbb⟩
  have aft:(c≤id∧id<c+Mk.length)∨id∈bx:=by
   rcases hwh with⟨j,k1,k2⟩ | k
   ·exact .inl ⟨by simp only at k1;omega,by simp only at k1;omega⟩
   ·exact .inr k
  have hL:b∈Lh Me++Lh Mk:=by
   rcases loc aft hb with⟨_,b0,q,hq,hbb⟩ | ⟨_,_,h⟩
   ·exact ZU _ (cI.2 ⟨_,b0,q,hq,hbb⟩)
   ·exact ZP _ h
  refine⟨?_,λhI=>hp'.Li b hL (i2 b hI),?_⟩
  ·rcases hin b hL with h | h
   ·obtain⟨id',B',k1,k2,k3,k4,k5⟩:=hno h;exact(hm.own id' B' b k3 k5 k2).1
   ·exact hall b h
  ·intro id' B' hB' ho' hb';by_cases hs:id'∈Mq os∨(c≤id'∧id'<c+Mk.length)
   ·have hmem':(c≤id'∧id'<c+Mk.length)∨id'∈bx:=by
     rw[gU]at hB';rcases sH hB' with h | ⟨h1,h2⟩
     ·exact hkeys id' (Ra.2 ⟨_,h,rfl⟩)
     ·by_cases hio:id'∈Mq os
      ·rw[vU hio]at h2;cases h2
      ·exact .inl (hs.resolve_left hio)
    have hnd:=Yo.1 hp'.nodup;rcases loc aft hb with⟨r1,c1,q1,e1,d1⟩ | ⟨r1,e1,f1⟩
    ·rcases loc hmem' hb' with⟨r2,c2,q2,e2,d2⟩ | ⟨r2,e2,f2⟩
     ·have:=mG hnd.2.1 e1 d1 e2 d2;omega
     ·exact absurd rfl (hnd.2.2 b f2 b (cI.2 ⟨_,c1,q1,e1,d1⟩))
    ·rcases loc hmem' hb' with⟨r2,c2,q2,e2,d2⟩ | ⟨r2,e2,f2⟩
     ·exact absurd rfl (hnd.2.2 b f1 b (cI.2 ⟨_,c2,q2,e2,d2⟩))
     ·obtain⟨B1,k1,_,k2⟩:=hos id (hbx id r1);obtain⟨B2,l1,_,l2⟩:=hos id' (hbx id' r2);exact(hm.SX id id' B1 B2 b k1 l1 k2 l2 e1 e2).symm
   ·exfalso;have hB0:=hsame id' hs B' hB';obtain⟨k1,k2⟩:=hnotin (λh=>hs (.inl h)) hB0 ho' (hblk (λh=>hs (.inr h)) hb');rcases hin b hL with h | h
    ·exact k1 h
    ·omega
 ·intro b hI;rcases i3 b hI with h | h | h
  ·exact hm1.io b h
  ·obtain⟨id',B',k1,k2,k3,k4,k5⟩:=hno h;exact .inr (hm.own id' B' b k3 k5 k2).1
  ·exact .inr (hall b h)
def G.Vv(c:Nat)(LJ:List Pl)(I:Nat→Prop):G:=⟨λx=>if c≤x then LJ[x - c]? else none,I,λ_=>False⟩
theorem wE{LJ:List Pl}{I:Nat→Prop}:Pm (G.Vv c LJ I) c LJ:=by
 intro j pl hj;simp only[G.Vv]
 rw[if_pos (by omega),QfP]
 exact hj
theorem Az{I:Nat→Prop}{ow:List Nat}{ds:List (ND F)}{k c:Nat}{vs:List Value}{LJ:List Pl}(h:MG w I ow k ds vs LJ):(OO ow k c ds).2.2=c+LJ.length:=
 (mM (g:=G.Vv c LJ I) h wE).2.2.2.1
theorem d8{I:Nat→Prop}{k:Kd}{x:k.El F}{v:Value}{LJ:List Pl}{Me:List Pl}(h:Held P w I k x v LJ Me):(O5 k x c).2.2=c+LJ.length:=
 (dv (g:=G.Vv c LJ I) h wE).2.2
theorem dW{I:Nat→Prop}:∀{ks:List Kd}{a:TL F ks}{vs:List Value}{Me:List Pl} {LJ:List Pl} {bx:List Nat} {c:Nat},eE P w I ks a vs Me LJ→bx.length=Me.length→(aw ks a bx c).2.2=c+LJ.length
 | [],a,vs,Me,LJ,bx,c,h,hb=>by obtain⟨rfl,rfl,rfl⟩:=h;rfl
 | [.box t ow],a,vs,Me,LJ,bx,c,h,hb=>by
  obtain⟨b,rfl,rfl,arr,e,h1,h2⟩:=h
  match bx,hb with
  | i::bx,hb=>simp only[aw];exact Az h2
 | [.row t arr],a,vs,Me,LJ,bx,c,h,hb=>by
  obtain⟨pl,rfl,rfl,_,rfl⟩:=h
  match bx,hb with
  | i::bx,hb=>rfl
 | .row t arr::l::ks,a,vs,Me,LJ,bx,c,h,hb=>by
  obtain⟨pl,Rz,rfl,_,h2⟩:=h
  match bx,hb with
  | i::bx,hb=>
   simp only[aw]
   rw[dW h2 (by simpa using hb)]
 | [.v t ow],a,vs,Me,LJ,bx,c,h,hb=>by obtain⟨v,rfl,rfl,h⟩:=h;simp only[aw];exact d8 h
 | [.cl f n],a,vs,Me,LJ,bx,c,h,hb=>by obtain⟨v,rfl,rfl,h⟩:=h;exact h.elim
 | .cl f n::l::ks,a,vs,Me,LJ,bx,c,h,hb=>by obtain⟨v,vs',p1,p2,rfl,rfl,h1,h2⟩:=h;exact h1.elim
 | [.rp t],a,vs,Me,LJ,bx,c,h,hb=>by obtain⟨v,rfl,rfl,h⟩:=h;simp only[aw];exact d8 h
 | [.TD t],a,vs,Me,LJ,bx,c,h,hb=>by obtain⟨v,rfl,rfl,h⟩:=h;simp only[aw];exact d8 h
 | [.pk k0 t],a,vs,Me,LJ,bx,c,h,hb=>by obtain⟨v,rfl,rfl,h⟩:=h;simp only[aw];exact d8 h
 | [.ln t],a,vs,Me,LJ,bx,c,h,hb=>by obtain⟨v,rfl,rfl,h⟩:=h;simp only[aw];exact d8 h
 | [.nb t ow],a,vs,Me,LJ,bx,c,h,hb=>by obtain⟨v,rfl,rfl,h⟩:=h;simp only[aw];exact d8 h
 | [.fn ks r],a,vs,Me,LJ,bx,c,h,hb=>by obtain⟨v,rfl,rfl,h⟩:=h;simp only[aw];exact d8 h
 | .box t ow::l::ks,a,vs,Me,LJ,bx,c,h,hb=>by
  obtain⟨b,Rz,p1,p2,rfl,rfl,⟨arr,e,h0,h1⟩,h2⟩:=h
  match bx,hb with
  | i::bx,hb=>
   simp only[aw]
   rw[Az h1,dW h2 (by simpa using hb),La];omega
 | .v t ow::l::ks,a,vs,Me,LJ,bx,c,h,hb=>by obtain⟨v,vs',p1,p2,rfl,rfl,h1,h2⟩:=h;simp only[aw];rw[d8 h1,dW h2 hb,La];omega
 | .rp t::l::ks,a,vs,Me,LJ,bx,c,h,hb=>by obtain⟨v,vs',p1,p2,rfl,rfl,h1,h2⟩:=h;simp only[aw];rw[d8 h1,dW h2 hb,La];omega
 | .TD t::l::ks,a,vs,Me,LJ,bx,c,h,hb=>by obtain⟨v,vs',p1,p2,rfl,rfl,h1,h2⟩:=h;simp only[aw];rw[d8 h1,dW h2 hb,La];omega
 | .pk k0 t::l::ks,a,vs,Me,LJ,bx,c,h,hb=>by obtain⟨v,vs',p1,p2,rfl,rfl,h1,h2⟩:=h;simp only[aw];rw[d8 h1,dW h2 hb,La];omega
 | .ln t::l::ks,a,vs,Me,LJ,bx,c,h,hb=>by obtain⟨v,vs',p1,p2,rfl,rfl,h1,h2⟩:=h;simp only[aw];rw[d8 h1,dW h2 hb,La];omega
 | .nb t ow::l::ks,a,vs,Me,LJ,bx,c,h,hb=>by obtain⟨v,vs',p1,p2,rfl,rfl,h1,h2⟩:=h;simp only[aw];rw[d8 h1,dW h2 hb,La];omega
 | .fn ks' r::l::ks,a,vs,Me,LJ,bx,c,h,hb=>by obtain⟨v,vs',p1,p2,rfl,rfl,h1,h2⟩:=h;simp only[aw];rw[d8 h1,dW h2 hb,La];omega
theorem xZ(hm:LQ own g w m)(hm1:LQ own g1 w m1)(h1i:g1.ids=g.ids)(h1l:g1.len=g.len)(hgi:∀b,g.Li b→g1.Li b)(hall:∀b,w.heap.size≤b→own.o b){u:Nat→Bool}(hd:∀id,u id=false→g.ids id=none)
  {os:List (Option Nat)} {bx:List Nat} {Me:List Pl} {Mk:List Pl} {Ut LX I:Nat→Prop} {w':World} {Ru:List Value} {ks:List Kd} {r:TL F ks}
  (hfr:∀k,k<(aw ks r bx c).2.2 - c→u (c+k)=false)
  (hos:∀id,some id∈os→∃B,m id=some B∧m1 id=some B∧B.owned=true) (hbx:∀id∈bx,some id∈os) (TN:bx.map g.ids=Me.map some)
  (hp:Sw w Ut (Lh (os.map (Mi g)))) (h0:∀b,g1.Li b→Ut b)
  (e1:w'.os=w.os) (e2:w'.tape=w.tape) (e3:w'.output=w.output) (e4:w.drawn≤w'.drawn)
  (hsz:w.heap.size≤w'.heap.size) (RH:∀b,b<w.heap.size→b∉Lh (os.map (Mi g))→w'.heap[b]? = w.heap[b]?)
  (i1:∀b,g1.Li b→I b) (i2:∀b,I b→LX b) (i3:∀b,I b→g1.Li b∨b∈Lh (os.map (Mi g))∨w.heap.size≤b) (i4:∀b,LX b→b<w'.heap.size)
  (hp':Sw w' LX (Lh Me++Lh Mk)) (hin:∀b∈Lh Me++Lh Mk,b∈Lh (os.map (Mi g))∨w.heap.size≤b)
  (hout:eE P w' I ks r Ru Me Mk) :
  ∃g',Ma P g' w' (Wz (aw ks r bx c).1) (U6 Ru)∧LQ own g' w' (Ml m1 (nones (Mq os)++blks (aw ks r bx c).2.1))∧Stp m g w g' w'∧∀id,u id=false→(id<c∨c+((aw ks r bx c).2.2 - c)≤id)→g'.ids id=none:=by
 have hlen:bx.length=Me.length:=by simpa using congrArg List.length TN
 have hcnt:=dW (c:=c) hout hlen
 have WI:∀k,k<Mk.length→g.ids (c+k)=none:=λk hk=>hd _ (hfr k (by rw[hcnt];omega))
 have hnot:∀{id:Nat},g.ids id≠none→¬ (c≤id∧id<c+Mk.length):=by
  intro id h hc
  exact h (by have:=WI (id - c) (by omega);rwa [QeP hc.1]at this)
 have Zv:bx.map (g.back c Mk I).ids=Me.map some:=by
  rw[← TN];refine YC λid hid=>?_;obtain⟨q,_,hq⟩:=m0 TN hid
  exact ef (hnot (by rw[hq];simp))
 obtain⟨k1,k2,k3⟩:=fL (g:=g.back c Mk I) (c:=c) (bx:=bx) hout uo Zv
 refine⟨g.back c Mk I,CK k1,sn hm hm1 h1i h1l hall rfl WI hos hbx TN hp h0 hsz RH i1 i2 i3 i4 hp' hin k2,⟨⟨?_,λb hb=>i1 b (hgi b hb),?_,λ_ h=>h,λb hb=>RH b (hm.len b hb).2 (λhin=>by obtain⟨id,h1,h2⟩:=cg.1 hin;obtain⟨B,l1,_,l2⟩:=hos id h1;exact(hm.len b hb).1 (hm.own id B b l1 l2 h2).1)⟩,e1,e2,e3,hsz,?_,e4⟩,?_⟩
 ·intro id q hq
  rw[ef (hnot (by rw[hq];simp))]
  exact hq
 ·intro b hb;exact RH b (hm.Li b hb) (λhin=>hp.Li b hin (h0 b (hgi b hb)))
 ·intro b hb hno;refine RH b hb (λhin=>?_);obtain⟨id,h1,h2⟩:=cg.1 hin;obtain⟨B,l1,_,l2⟩:=hos id h1;exact hno id B l1 l2 h2
 ·intro id hu hw
  rw[ef (by rw[hcnt]at hw;omega)]
  exact hd id hu
theorem DU(hΓ : ML P Γ)(hm:LQ own g w m)(hle:P6 mm m){u:Nat→Bool}(hd:∀id,u id=false→g.ids id=none)(hall:∀b,w.heap.size≤b→own.o b)
  {f:FuncId} {args:List (Dat F)} {vs:List Value} (hr:MF P g w args vs) {sp:Spec F} (hsp:look Γ f=some sp) {p:Pk (HL F sp.ks)} (hp:lH Γ mm sp.ks (cond ((outs sp).all (Kd.M4 F)) (args.map Vy) args)=some p)
  (hnd:d9 (Mq p.os)=true) (hdj:RU (Mq p.os) p.fz=true) {r:TL F (outs sp)} (hD:sp.D p.x=some r)
  (hfr:∀k,k<(aw (outs sp) r p.bx c).2.2 - c→u (c+k)=false) (hrun:(execOp a.eval o).run P w = .ok (.enter f ⟨vs⟩) w) :
  PY P own m u g w o a c { val:=Wz (aw (outs sp) r p.bx c).1,mw:=(if(outs sp).all (Kd.M4 F)then[]else Wo mm p.fz)++nones (Mq p.os)++blks (aw (outs sp) r p.bx c).2.1,nu:=(aw (outs sp) r p.bx c).2.2 - c }:=by
 have pre:∀{acT:Ow}{g2:G}(hm2:LQ acT g2 w m)(Oc:g2.ids=g.ids),MF P g2 w (cond ((outs sp).all (Kd.M4 F)) (args.map Vy) args) vs→∃Me,db P w (g2.Rm p.fz).Li sp.ks p.x vs (p.os.map (Mi g)) Me∧p.bx.map g.ids=Me.map some∧(∀id∈p.bx,some id∈p.os)∧
   (∀id,some id∈p.os→∃B,m id=some B∧B.owned=true)∧LQ acT (g2.Rm p.fz) w (Ml m (Wo mm p.fz))∧(∀id,some id∈p.os→∃B,m id=some B∧Ml m (Wo mm p.fz) id=some B∧B.owned=true)∧Sw w (g2.Rm p.fz).Li (Lh (p.os.map (Mi g))):=by
  intro acT g2 hm2 Oc hr2;have hfz:TH g2 p.fz (g2.Rm p.fz).Li:=⟨λ_ h=>.inl h,λid hid b hb=>.inr ⟨id,hid,hb⟩⟩;obtain⟨Me,k1,k2,k3,k4,k5⟩:=pb hΓ hm2 hle hp hfz hr2
  have hown:∀id,some id∈p.os→∃B,m id=some B∧B.owned=true:=λid hid=>by obtain⟨B,h1,h2⟩:=k4 id hid;exact⟨B,hle _ _ h1,h2⟩
  have Uv:=mU hm2 hle k3
  have hown1:∀id,some id∈p.os→∃B,m id=some B∧Ml m (Wo mm p.fz) id=some B∧B.owned=true:=λid hid=>by
   obtain⟨B,h1,h2⟩:=hown id hid
   exact⟨B,h1,by rw[kV,if_neg (nM hdj id (fT.2 hid))];exact h1,h2⟩
  have hpo:Mi g2=Mi g:=by
   funext o
   cases o with
   | none=>rfl
   | some i=>simp only[Mi,Oc]
  have hbk:∀id b,g2.blk id b↔g.blk id b:=λid b=>by unfold G.blk;rw[Oc]
  rw[hpo]at k1;rw[Oc]at k2;refine⟨Me,k1,k2,k5,hown,Uv,hown1,kh hm (jm hnd) hown,?_,?_⟩
  ·intro b hb hi;obtain⟨id,h1,h2⟩:=cg.1 hb;obtain⟨B,_,h3,h4⟩:=hown1 id h1;exact(Uv.own id B b h3 h4 ((hbk id b).2 h2)).2 hi
  ·intro b hb;obtain⟨id,h1,h2⟩:=cg.1 hb;obtain⟨B,h3,h4⟩:=hown id h1;exact(hm.ok id B h3).place hm.Li (Mg.PU h4) h2
 obtain⟨hent,hfn⟩:=hΓ f sp hsp;intro next Q hn;unfold Oper.wp;rw[hrun]
 cases hfl:(outs sp).all (Kd.M4 F)with
 | true=>
  rw[hfl]at pre;obtain⟨Me,k1,k2,k5,hown,Uv,hown1,hpl⟩:=pre hm.lf rfl (yC hr);refine(hfn p.x r hD _ w vs _ Me k1 hpl Uv.Li).mono ?_;rintro e w' ⟨Ru,LX,Mk,rfl,e1,e2,e3,edr,e4,e5,e6,e7,e8,e9,e10,e11⟩
  obtain⟨g',q1,q2,q3,q4⟩:=xZ (I:=g.Li) hm hm rfl rfl (λ_ h=>h) hall hd hfr (λid hid=>by obtain⟨B,h1,h2⟩:=hown id hid;exact⟨B,h1,h1,h2⟩) k5 k2 hpl (λb h=>.inl (.inl h)) e1 e2 e3 edr e4 e5
   (λ_ h=>h) (λb h=>e6 b (.inl (.inl h))) (λb h=>.inl h) e8 e10 e11 (sK hfl e9)
  refine hn _ w' g' q1 ?_ q3 q4;simpa[hfl]using q2
 | false=>
  rw[hfl]at pre;obtain⟨Me,k1,k2,k5,hown,Uv,hown1,hpl⟩:=pre hm rfl hr;refine(hfn p.x r hD _ w vs _ Me k1 hpl Uv.Li).mono ?_;rintro e w' ⟨Ru,LX,Mk,rfl,e1,e2,e3,edr,e4,e5,e6,e7,e8,e9,e10,e11⟩;obtain⟨g',q1,q2,q3,q4⟩:=xZ (I:=LX) hm Uv rfl rfl (λb h=>.inl h) hall hd hfr hown1 k5 k2 hpl (λb h=>h) e1 e2 e3 edr e4 e5
   e6 (λb h=>h) e7 e8 e10 e11 e9
  refine hn _ w' g' q1 ?_ q3 q4;simp only[hfl,RZ,if_false,P5];rw[gU];exact q2
theorem B4{g:G}{I:Nat→Prop}{ks:List Nat}{c:MJ F}{v:Value}(h:Mh g w c v):Mh (F:=F) ⟨g.ids,I,g.len⟩ w (fgC ks c) v:=by
 cases c with
 | im d=>
  simp only[fgC]
  cases hd:d.flat with
  | true=>cases h with | im h=>exact .im (h.flat hd)
  | false=>exact .one (h.oneCell (by simp))
 | Nn id=>
  simp only[fgC]
  cases hk:Mf id ks with
  | false=>exact .one (h.oneCell (by simp))
  | true=>
   cases h with
   | PG p h=>exact .PG p h
   | Nn h hl hm=>exact .Nn h hl hm
 | any=>exact .any
 | _=>exact .one (h.oneCell (by simp))
theorem Jt{g:G}{I:Nat→Prop}{ks:List Nat}{d:Dat F}{v:Value}(h:Ma P g w d v):Ma P ⟨g.ids,I,g.len⟩ w (fgD ks d) v:=by
 cases h with
 | c h=>exact .c (B4 h)
 | agg hl h=>
  refine .agg (by rw[Py];exact hl) λk c x a b=>?_
  rw[Rf]at a;obtain⟨c0,h0,rfl⟩:=Wi.1 a;exact B4 (h k c0 x h0 b)
 | _=>exact .c .any
theorem HX{g:G}{I:Nat→Prop}{ks:List Nat}{ds:List (Dat F)}{vs:List Value}(h:MF P g w ds vs):MF P ⟨g.ids,I,g.len⟩ w (ds.map (fgD ks)) vs:=by
 refine⟨by rw[Py];exact h.1,λk d x a b=>?_⟩
 rw[Rf]at a;obtain⟨c0,h0,rfl⟩:=Wi.1 a;exact Jt (h.2 k c0 x h0 b)
theorem Hq{g:G}{I:Nat→Prop}{c n:Nat}{bx:List Nat}{bs:List (Nat×Mg F)}(h:SF g w c n bx bs):SF ⟨g.ids,I,g.len⟩ w c n bx (bs.filter Yu):=by
 intro p hp;obtain⟨h1,h2⟩:=PL.1 hp;obtain⟨k1,k2,k3⟩:=h p h1;refine⟨k1,?_,k3⟩;obtain⟨id,B⟩:=p
 cases B with
 | row t l=>
  simp only[Yu]at h2;rcases k2 with k2 | ⟨b,cap,cur,e,q1,q2,q3,q4,q5,q6⟩
  ·exact .inl k2
  ·exact .inr ⟨b,cap,cur,e,q1,q2,q3,q4,q5,λk d x a b=>(q6 k d x a b).flat (v6 h2 d (Wu a))⟩
 | _=>simp[Yu]at h2
theorem DK(hm:LQ own g w m)(hall:∀b,w.heap.size≤b→own.o b){u:Nat→Bool}(hd:∀id,u id=false→g.ids id=none)
  {os:List (Option Nat)} {bx:List Nat} {Me:List Pl} {Mk:List Pl} {Ut LX:Nat→Prop} {w':World} {Ru:List Value} {ks:List Kd} {r:TL F ks}
  (hfr:∀k,k<(aw ks r bx c).2.2 - c→u (c+k)=false)
  (hos:∀id,some id∈os→∃B,m id=some B∧B.owned=true) (hbx:∀id∈bx,some id∈os) (TN:bx.map g.ids=Me.map some)
  (hp:Sw w Ut (Lh (os.map (Mi g)))) (h0:∀b,g.Li b→Ut b)
  (e1:w'.os=w.os) (e2:w'.tape=w.tape) (e3:w'.output=w.output) (e4:w.drawn≤w'.drawn)
  (hsz:w.heap.size≤w'.heap.size) (RH:∀b,b<w.heap.size→b∉Lh (os.map (Mi g))→w'.heap[b]? = w.heap[b]?)
  (i2:∀b,g.Li b→LX b) (i4:∀b,LX b→b<w'.heap.size)
  (hp':Sw w' LX (Lh Me++Lh Mk)) (hin:∀b∈Lh Me++Lh Mk,b∈Lh (os.map (Mi g))∨w.heap.size≤b)
  (hout:eE P w' LX ks r Ru Me Mk) :
  ∃g',Ma P g' w' (Wz ((aw ks r bx c).1.map (fgD (((aw ks r bx c).2.1.filter Yu).map (·.1))))) (U6 Ru)∧LQ own g' w' (Ml m (nones (Mq os)++blks ((aw ks r bx c).2.1.filter Yu)))∧Stp m g w g' w'∧∀id,u id=false→(id<c∨c+((aw ks r bx c).2.2 - c)≤id)→g'.ids id=none:=by
 have hlen:bx.length=Me.length:=by simpa using congrArg List.length TN
 have hcnt:=dW (c:=c) hout hlen
 have WI:∀k,k<Mk.length→g.ids (c+k)=none:=λk hk=>hd _ (hfr k (by rw[hcnt];omega))
 have hnot:∀{id:Nat},g.ids id≠none→¬ (c≤id∧id<c+Mk.length):=by
  intro id h hc
  exact h (by have:=WI (id - c) (by omega);rwa [QeP hc.1]at this)
 have Zv:bx.map (g.back c Mk LX).ids=Me.map some:=by
  rw[← TN];refine YC λid hid=>?_;obtain⟨q,_,hq⟩:=m0 TN hid
  exact ef (hnot (by rw[hq];simp))
 obtain⟨k1,k2,k3⟩:=fL (g:=g.back c Mk LX) (c:=c) (bx:=bx) hout uo Zv;have k1':MF P (g.back c Mk g.Li) w' ((aw ks r bx c).1.map (fgD (((aw ks r bx c).2.1.filter Yu).map (·.1)))) Ru:=HX k1;have k2':SF (g.back c Mk g.Li) w' c Mk.length bx ((aw ks r bx c).2.1.filter Yu):=Hq k2
 refine⟨g.back c Mk g.Li,CK k1',sn hm hm rfl rfl hall rfl WI (λid hid=>by obtain⟨B,h1,h2⟩:=hos id hid;exact⟨B,h1,h1,h2⟩) hbx TN hp h0 hsz RH (λ_ h=>h) i2 (λb h=>.inl h) i4 hp' hin k2',⟨⟨?_,λb hb=>hb,?_,λ_ h=>h,λb hb=>RH b (hm.len b hb).2 (λhin=>by obtain⟨id,h1,h2⟩:=cg.1 hin;obtain⟨B,l1,l2⟩:=hos id h1;exact(hm.len b hb).1 (hm.own id B b l1 l2 h2).1)⟩,e1,e2,e3,hsz,?_,e4⟩,?_⟩
 ·intro id q hq
  rw[ef (hnot (by rw[hq];simp))]
  exact hq
 ·intro b hb;exact RH b (hm.Li b hb) (λhin=>hp.Li b hin (h0 b hb))
 ·intro b hb hno;refine RH b hb (λhin=>?_);obtain⟨id,h1,h2⟩:=cg.1 hin;obtain⟨B,l1,l2⟩:=hos id h1;exact hno id B l1 l2 h2
 ·intro id hu hw
  rw[ef (by rw[hcnt]at hw;omega)]
  exact hd id hu
theorem Dq(hΓ : ML P Γ)(hm:LQ own g w m)(hle:P6 mm m){u:Nat→Bool}(hd:∀id,u id=false→g.ids id=none)(hall:∀b,w.heap.size≤b→own.o b)
  {f:FuncId} {args:List (Dat F)} {vs:List Value} (hr:MF P g w args vs) {sp:Spec F} (hsp:look Γ f=some sp) {p:Pk (HL F sp.ks)} (hp:lH Γ mm sp.ks (args.map Vy)=some p)
  (hnd:d9 (Mq p.os)=true) (hdj:RU (Mq p.os) p.fz=true) {r:TL F (outs sp)} (hD:sp.D p.x=some r)
  (hfr:∀k,k<(aw (outs sp) r p.bx c).2.2 - c→u (c+k)=false) (hrun:(execOp a.eval o).run P w = .ok (.enter f ⟨vs⟩) w) :
  PY P own m u g w o a c { val:=Wz ((aw (outs sp) r p.bx c).1.map (fgD (((aw (outs sp) r p.bx c).2.1.filter Yu).map (·.1)))),mw:=nones (Mq p.os)++blks ((aw (outs sp) r p.bx c).2.1.filter Yu),nu:=(aw (outs sp) r p.bx c).2.2 - c }:=by
 have hm2:=hm.lf;have hr2:=yC hr;have hfz:TH g.lf p.fz (g.lf.Rm p.fz).Li:=⟨λ_ h=>.inl h,λid hid b hb=>.inr ⟨id,hid,hb⟩⟩;obtain⟨Me,k1,k2,k3,k4,k5⟩:=pb hΓ hm2 hle hp hfz hr2
 have hown:∀id,some id∈p.os→∃B,m id=some B∧B.owned=true:=λid hid=>by obtain⟨B,h1,h2⟩:=k4 id hid;exact⟨B,hle _ _ h1,h2⟩
 have Uv:=mU hm2 hle k3
 have hpo:Mi g.lf=Mi g:=by
  funext o
  cases o with
  | none=>rfl
  | some i=>rfl
 rw[hpo]at k1
 have hpl:Sw w (g.lf.Rm p.fz).Li (Lh (p.os.map (Mi g))):=by
  refine⟨kh hm (jm hnd) hown,?_,?_⟩
  ·intro b hb hi;obtain⟨id,h1,h2⟩:=cg.1 hb;obtain⟨B,h3,h4⟩:=hown id h1
   have h3':Ml m (Wo mm p.fz) id=some B:=by rw[kV,if_neg (nM hdj id (fT.2 h1))];exact h3
   exact(Uv.own id B b h3' h4 h2).2 hi
  ·intro b hb;obtain⟨id,h1,h2⟩:=cg.1 hb;obtain⟨B,h3,h4⟩:=hown id h1;exact(hm.ok id B h3).place hm.Li (Mg.PU h4) h2
 obtain⟨hent,hfn⟩:=hΓ f sp hsp;intro next Q hn;unfold Oper.wp;rw[hrun];refine(hfn p.x r hD _ w vs _ Me k1 hpl Uv.Li).mono ?_;rintro e w' ⟨Ru,LX,Mk,rfl,e1,e2,e3,edr,e4,e5,e6,e7,e8,e9,e10,e11⟩;obtain⟨g',q1,q2,q3,q4⟩:=DK hm hall hd hfr hown k5 k2 hpl (λb h=>.inl (.inl h)) e1 e2 e3 edr e4 e5
  (λb h=>e6 b (.inl (.inl h))) e8 e10 e11 e9
 exact hn _ w' g' q1 (by simpa using q2) q3 q4
end
set_option linter.unusedVariables false
set_option linter.unusedSimpArgs false
section
variable{F:Fam}{P:Program}{T:TypeId→Option (TI F)}{Γ : Ctx F}{o:Oper}{vals:List (Dat F)}{mm:Nat→Option (Mg F)}{c:Nat}{R:Type}{K:SS F→Option R}
variable{own:Ow}{g:G}{w:World}{m:Nat→Option (Mg F)}{u:Nat→Bool}{a:Act}
theorem CZ(hm:LQ own g w m)(hd:∀id,u id=false→g.ids id=none)(hall:∀b,w.heap.size≤b→own.o b)(hfr:u c=false){ob:Obj}{B:Mg F}{d:Dat F}{v:Value}
  (hv:∀g' w',g'.ids c=some (some (w.heap.size,0,0,[]))→Ma P g' w' d v)
  (hB:∀g' w',Le g w g' w'→g'.ids c=some (some (w.heap.size,0,0,[]))→w'.heap[w.heap.size]? = some ob→Na g' w' c B)
  (hrun:(execOp a.eval o).run P w = .ok (.value v) (w.alloc ob)):PY P own m u g w o a c { val:=d,mw:=[(c,some B)],nu:=1 }:=by
 have hf:g.ids c=none:=hd c hfr;have hold:∀b,b<w.heap.size→(w.alloc ob).heap[b]? = w.heap[b]?:=λb hb=>heap_alloc_old w ob b hb;have hnew:(w.alloc ob).heap[w.heap.size]? = some ob:=heap_alloc_new w ob
 obtain⟨k1,k2⟩:=kZ (rm:=[]) (pl:=some (w.heap.size,0,0,[])) (B:=B) hm hf (w':=w.alloc ob) (by
  intro b0 c e b hb;cases e;simp only[MO,Lb]at hb;subst hb
  exact .inl ⟨MN _,by rw[World.size_alloc];omega,hall _ (MN _)⟩) rfl rfl rfl (MN _) (by rw[World.size_alloc];omega) (λb hb _=>hold b hb) (λg' hle hi=>hB g' _ hle hi hnew)
 intro next Q hn;unfold Oper.wp;rw[hrun];refine hn _ _ (g.name c (some (w.heap.size,0,0,[]))) (hv _ _ (bv _ _ _)) k1 k2 ?_;intro x hu hx;have hx:x<c∨c+1≤x:=hx
 have:x≠c:=by omega
 rw[cj _ _ _ this];exact hd x hu
theorem va{t:TypeId}{k v:TypeId}{tt:Ty}(h:UQ T t=some (k,v,tt)):∃ti,T t=some ti∧ti.desc = .map k v∧tt.Ny=true:=by
 unfold UQ at h;split at h
 ·rename_i k' v' _ _ _ TB _ ht
  cases hm:TB.Ny with
  | false=>rw[hm]at h;cases h
  | true=>rw[hm]at h;cases h;exact⟨_,ht,rfl,hm⟩
 ·cases h
theorem Ao(hT:Mc P T){t:TypeId}(ho:o.op = .makeMap t none):Rule P o vals mm c K (vv T c K t):=by
 unfold vv;split
 ·rename_i k v tt ht;intro r hr;refine⟨_,hr,?_⟩;intro own g w a m u hle hm hd hall hfr hrep
  refine CZ (ob:=.map #[] 0) hm hd hall (hfr 0 (by simp)) (v:=.map (some w.heap.size)) ?_ ?_ ?_
  ·intro g' w' hi;exact .c (.Sy hi)
  ·intro g' w' hle' hi hh
   exact⟨w.heap.size,hi,[],hh,rfl,by simp⟩
  ·simp[execOp,ho,Instr.makeMap,newObj];rfl
 ·exact af
theorem GV{ts r:List Ty}{k:IntKind}(h:ts = .int k::r)(a:M7 F ts){kd:ND F}{Rk:List (ND F)}(he:OU F ts a=kd::Rk):∃n,kd = .i k n:=by subst h;simp only[OU,enc1,QgN]at he;exact⟨_,he.1.symm⟩
theorem H3{ts r:List Ty}(h:ts = .str::r)(a:M7 F ts){kd:ND F}{Rk:List (ND F)}(he:OU F ts a=kd::Rk):∃l,kd = .s l:=by subst h;simp only[OU,enc1,QgN]at he;exact⟨_,he.1.symm⟩
theorem xn{tt:Ty}{d:TypeDesc}{kd:ND F}(h:SI tt (some d) kd=true){w:World}{Li:Nat→Prop}{kv:Value}(hk:L_ w Li kd kv) :
  MapKept.IsKey d kv∧∀(w':World)(LX:Nat→Prop)(x:ET F tt)(kd':ND F) (Rk:List (ND F)) (ek:Value),LZ F tt x=kd'::Rk→L_ w' LX kd' ek→(Pv tt kd x=true↔ek=kv)∧MapKept.IsKey d ek:=by
 unfold SI at h;split at h
 ·rename_i n;split at h
  ·rename_i K r K' K'' m hfs hd;cases hd;simp only[Np,decide_eq_true_eq]at h;obtain⟨rfl,rfl⟩:=h;cases hk;refine⟨rfl,λw' LX x kd' Rk ek he hr=>?_⟩;obtain⟨m',rfl⟩:=GV hfs _ he;cases hr;unfold Pv;rw[he];refine⟨?_,rfl⟩;simp only[beq_iff_eq,Value.int.injEq,true_and];exact eq_comm
  ·rename_i r l hfs hd;cases hd;cases hk;refine⟨trivial,λw' LX x kd' Rk ek he hr=>?_⟩;obtain⟨l',rfl⟩:=H3 hfs _ he;cases hr;unfold Pv;rw[he];refine⟨?_,trivial⟩;simp only[beq_iff_eq,Value.string.injEq];constructor
   ·rintro rfl;rfl
   ·intro e;have:=congrArg (λb:ByteArray=>b.data.toList) e;exact this.symm
  ·cases h
 ·cases h
theorem vD{tt:Ty}{p:ET F tt→Bool}{d:TypeDesc}{kv:Value}(hk:MapKept.IsKey d kv):∀(l:List (ET F tt)) (es:List MapEntry) (i:Nat),es.length=l.length→
  (∀(k:Nat)(x:ET F tt)(e:MapEntry),l[k]? = some x→es[k]? = some e→(p x=true↔e.key=kv)∧MapKept.IsKey d e.key)→
  (Instr.findNow d kv es i=some none∧l.find? p=none∧(∀y,NP p l y=l++[y])∧P7 p l=false)∨
  ∃j x e,Instr.findNow d kv es i=some (some (i+j,e.val))∧l[j]? = some x∧es[j]? = some e∧e.key=kv∧l.find? p=some x∧(∀y,NP p l y=l.set j y)∧P7 p l=true
 | [],es,i,hl,h=>by
  have:es = []:=Ui (by simpa using hl)
  subst this;exact .inl ⟨rfl,rfl,λ_=>rfl,rfl⟩
 | x::l,[],i,hl,h=>by simp at hl
 | x::l,e::es,i,hl,h=>by
  obtain⟨h1,h2⟩:=h 0 x e rfl rfl;obtain⟨r,hr,hiff⟩:=MapKept.sameNow_of_keys hk h2
  cases hp:p x with
  | true=>
   have he:=h1.1 hp;have hrt:r=true:=hiff.2 he.symm;subst hrt
   exact .inr ⟨0,x,e,by simp[Instr.findNow,hr],rfl,rfl,he,by simp[hp],λy=>by simp[NP,hp],by simp[P7,hp]⟩
  | false=>
   have hne:¬ kv=e.key:=λq=>by have:=h1.2 q.symm;rw[hp]at this;cases this
   have hrf:r=false:=by
    cases r with
    | false=>rfl
    | true=>exact absurd (hiff.1 rfl) hne
   subst hrf
   rcases vD hk l es (i+1) (by simpa using hl) (λk x e a b=>h (k+1) x e a b)with⟨k1,k2,k3,k4⟩ | ⟨j,x',e',k1,k2,k3,k4,k5,k6,k7⟩
   ·exact .inl ⟨by simp[Instr.findNow,hr,k1],by simp[hp,k2],λy=>by simp[NP,hp,k3],by unfold P7 at k4 ⊢;simp[hp,k4]⟩
   ·exact .inr ⟨j+1,x',e',by simp[Instr.findNow,hr,k1];omega,by simpa using k2,by simpa using k3,k4,by simp[hp,k5],λy=>by simp[NP,hp,k6],by unfold P7 at k7 ⊢;simp[hp,k7]⟩
theorem vi{tt:Ty}{x:ET F tt}{d:Dat F}(h:rv tt x=some d){kd:ND F}{Rk:List (ND F)}(he:LZ F tt x=kd::Rk){v:Value}(hv:Pt w g.Li (Rk,tt.Wn) v):Ma P g w d v:=by
 unfold rv at h;rw[he]at h;dsimp only at h
 cases hs:tt.Wn with
 | true=>
  rw[hs]at h hv;cases h
  cases hv with
  | agg hl hh=>
   refine .agg (by simpa using hl) λk c x a b=>?_
   rw[Rf,Wi]at a;obtain⟨d,hd,rfl⟩:=a;exact .im (hh k d x hd b)
 | false=>
  rw[hs]at h hv;simp only[cond_false]at h;split at h
  ·cases h
   cases hv with
   | one h=>exact .c (.im h)
  ·cases h
theorem Fk(hT:Mc P T){v:TypeId}{tt:Ty}{kd:ND F}{z:ET F tt}(h:wS T v tt kd=some z){d:Dat F}(hd:rv tt z=some d):∃zv,(zeroValue v).run P w = .ok zv w∧Ma P g w d zv:=by
 unfold wS at h;split at h
 ·rename_i te hte
  cases hc:fM te.desc == tt.Wn with
  | false=>rw[hc]at h;cases h
  | true=>
   rw[hc]at h;simp only[cond_true]at h
   have hag:fM te.desc=tt.Wn:=by simpa using hc
   have hle:=cA F h;obtain⟨j,hj,_,_,zv,hz,hzs,hzl,hr⟩:=hT.info v te hte;have hza:=hT.zag v te j zv hte hj hz
   refine⟨zv,by simp[zeroValue,typeInfo,hj,hz],?_⟩
   cases he:LZ F tt z with
   | nil=>rw[he]at hle;exact absurd hle.1 (by simp)
   | cons kd' Rk=>
    rw[he]at hle
    have hl2:Tk te.zero Rk:=⟨by simpa using hle.1,λk a b h1 h2=>hle.2 (k+1) a b h1 h2⟩
    refine vi hd he ?_
    cases hs:tt.Wn with
    | true=>
     rw[hag,hs]at hza
     cases zv with
     | agg cs=>
      refine .agg (by show cs.toList.length=Rk.length;rw[← hl2.1,hzl,← hzs];rfl) λk c x a b=>?_
      have hlt:k<te.zero.length:=by rw[hl2.1];exact(K_.1 a).1
      exact(hr w g.Li k _ x (K9 hlt) (by rw[← QdT];exact b)).Xu (hl2.2 k _ c (K9 hlt) a)
     | _=>cases hza
    | false=>
     unfold rv at hd;rw[he,hs]at hd;simp only[cond_false]at hd;split at hd
     ·rename_i d0;rw[hag,hs]at hza
      have h0:0<te.zero.length:=by rw[hl2.1];simp
      have hcell:zv.cells[0]? = some zv:=by
       cases zv<;>first | rfl | cases hza
      exact .one ((hr w g.Li 0 _ zv (K9 h0) hcell).Xu (hl2.2 0 _ d0 (K9 h0) rfl))
     ·cases hd
 ·cases h
theorem yB{tt:Ty}{d:TypeDesc}{kd:ND F}(h:SI tt (some d) kd=true){Li:Nat→Prop}{kv:Value}(hk:L_ w Li kd kv){l:List (ET F tt)}{es:List MapEntry}
  (h3:∀(k:Nat)(x:ET F tt)(e:MapEntry),l[k]? = some x→es[k]? = some e→e.born=k∧∃kd Rk,LZ F tt x=kd::Rk∧L_ w Li kd e.key∧Pt w Li (Rk,tt.Wn) e.val) :
  ∀(k:Nat)(x:ET F tt)(e:MapEntry),l[k]? = some x→es[k]? = some e→(Pv tt kd x=true↔e.key=kv)∧MapKept.IsKey d e.key:=by
 intro k x e a b;obtain⟨_,kd',Rk,q1,q2,_⟩:=h3 k x e a b;exact(xn h hk).2 w Li x kd' Rk e.key q1 q2
theorem Bm(hT:Mc P T){t:TypeId}{x y:Operand}{ok:Bool}(ho:o.op = .lookup t x y ok):Rule P o vals mm c K (xi T vals mm K t ok):=by
 unfold xi;split
 ·rename_i k v tt id kd hmt;split
  ·rename_i TB l hid;split
   ·rename_i V_;subst V_
    cases hko:SI TB (jf T k) kd with
    | false=>exact af
    | true=>
     simp only[cond_true];split
     ·rename_i z hz;split
      ·rename_i d hd;refine av ?_;intro own g w a m hle hm hr;rw[ho]at hr;simp only[Op.operands,M9,Oi]at hr;obtain⟨hx,hy⟩:=M5 hr;obtain⟨ti,ht,hde,hmp⟩:=va hmt;obtain⟨b,k1,k2,es,k3,k4,k5⟩:=rC hm (hle _ _ hid);obtain⟨b',c',k6,ex⟩:=rE (bh hx);rw[k2]at k6;cases k6;have hu:=hT.und _ _ ht;rw[hde]at hu
       cases hdk:jf T k with
       | none=>rw[hdk]at hko;unfold SI at hko;split at hko<;>(try cases hko);split at hko<;>simp_all
       | some dk=>
        rw[hdk]at hko
        have ZY:P.underlying k=some dk:=by
         unfold jf at hdk;split at hdk
         ·rename_i ti' ac4;cases hdk;exact hT.und _ _ ac4
         ·cases hdk
        have hkv:=c9 (bh hy);have hrel:=yB hko hkv k5;have hik:=(xn hko hkv).1
        have hfin:∀{v':Value}{bb:Bool}{d':Dat F},Ma P g w d' v'→(P7 (Pv TB kd) l=bb)→Ma P g w (cond ok (.Pp [d',.c (.im (.b (P7 (Pv TB kd) l)))]) d') (if ok=true then .tuple #[v',.bool bb]else v'):=by
         intro v' bb d' hv' hb
         cases ok with
         | false=>exact hv'
         | true=>
          refine .Pp rfl λj d0 x0 a0 b0=>?_
          match j with
          | 0=>cases a0;cases b0;exact hv'
          | 1=>cases a0;cases b0;rw[hb];exact .c (.im (.b _))
          | j+2=>simp at a0
        rcases vD (p:=Pv TB kd) hik l es 0 k4 hrel with⟨f1,f2,_,f4⟩ | ⟨j,x0,e0,f1,f2,f3,f4,f5,_,f7⟩
        ·obtain⟨zv,hz1,hz2⟩:=Fk (w:=w) (g:=g) hT hz (d:=d) (by rw[← hd];unfold OE;rw[f2];rfl)
         refine⟨if ok=true then .tuple #[zv,.bool false]else zv,?_,hfin hz2 f4⟩
         simp only[execOp,ho,ex,Instr.lookup,OA,run_underlying hu,OM,MapKept.run_getObj_map k3,PD,MapKept.run_checkKey ZY hik,MapKept.run_findKey ZY f1,hz1]
        ·obtain⟨_,kd',Rk,q1,q2,q3⟩:=k5 j x0 e0 f2 f3
         refine⟨if ok=true then .tuple #[e0.val,.bool true]else e0.val,?_,hfin (vi (x:=x0) (by rw[← hd];unfold OE;rw[f5];rfl) q1 q3) f7⟩
         simp only[execOp,ho,ex,Instr.lookup,OA,run_underlying hu,OM,MapKept.run_getObj_map k3,PD,MapKept.run_checkKey ZY hik,MapKept.run_findKey ZY f1]
      ·exact af
     ·exact af
   ·exact af
  ·exact af
 ·exact af
def Sc(w:World)(b:Nat)(ob:Obj):World:={ w with heap:=w.heap.setIfInBounds b ob }
theorem tH(w:World)(b:Nat)(ob:Obj){b':Nat}(h:b'≠b):(Sc w b ob).heap[b']? = w.heap[b']?:=by show(w.heap.setIfInBounds b ob)[b']? = _;simp[Ne.symm h]
theorem A4(w:World)(b:Nat)(ob:Obj)(h:b<w.heap.size):(Sc w b ob).heap[b]? = some ob:=by show(w.heap.setIfInBounds b ob)[b]? = _;simp[h]
theorem vG(w:World)(b:Nat)(ob:Obj):(Sc w b ob).heap.size=w.heap.size:=by show(w.heap.setIfInBounds b ob).size=_;simp
theorem se(hm:LQ own g w m){id b:Nat}{ob:Obj}{B B':Mg F}(hB:m id=some B)(ho:B.owned=true)(hblk:g.blk id b)
  (hB':(Sc w b ob).heap[b]? = some ob→Le g w g (Sc w b ob)→Na g (Sc w b ob) id B') :
  LQ own g (Sc w b ob) (Ml m [(id,some B')])∧Stp m g w g (Sc w b ob):=by
 have hlt:b<w.heap.size:=(hm.ok id B hB).place hm.Li (Mg.PU ho) hblk;have hne:∀b',b'≠b→(Sc w b ob).heap[b']? = w.heap[b']?:=λb' h=>tH w b ob h;have Zq:¬ g.Li b:=(hm.own id B b hB ho hblk).2;have hle:Le g w g (Sc w b ob):=⟨λ_ _ h=>h,λ_ h=>h,λb' hb'=>hne b' (λe=>Zq (e▸hb')),λ_ h=>h,λb' hb'=>hne b' (λe=>(hm.len b' hb').1 (e▸(hm.own id B b hB ho hblk).1))⟩
 have less:∀x,x≠id→∀Bx,Ml m [(id,some B')] x=some Bx→m x=some Bx:=by intro x hx Bx h;simp only[Ml]at h;rw[ao (λe=>hx e.symm)]at h;simpa using h
 refine⟨?_,hle,rfl,rfl,rfl,by rw[vG];exact MN _,?_,MN _⟩
 ·refine hm.O_ (S:=λx=>x=id) hle less (λ_ _=>rfl) ?_ ?_ ?_ hm.io (λb' hb'=>⟨(hm.len b' hb').1,by rw[vG];exact(hm.len b' hb').2⟩)
  ·intro x Bx b' hx hBx hox hbx;refine⟨hne b' (λe=>hx ?_),(hm.own x Bx b' hBx hox hbx).2⟩;subst e;exact hm.SX x id Bx B b' hBx hB hox ho hbx hblk
  ·rintro x Bx rfl hBx;simp only[Ml,bC,if_true,NJ]at hBx;subst hBx;refine⟨hB' (A4 w b ob hlt) hle,?_⟩;rintro b' hob hb';refine⟨(hm.own x B b' hB ho hb').1,(hm.own x B b' hB ho hb').2,?_⟩;intro y By hy hoy hby;by_cases hyx:y=x
   ·exact hyx
   ·exact hm.SX y x By B b' (less y hyx By hy) hB hoy ho hby hb'
  ·intro b' hb';rw[vG];exact hm.Li b' hb'
 ·intro b' _ hno;exact hne b' (λe=>hno id B hB ho (e▸hblk))
theorem yO(hm:LQ own g w m)(hle:P6 mm m){tt:Ty}{d:Dat F}{cs:List (MJ F)}(h:tF tt d=some cs){ds:List (ND F)}(hds:cF mm cs=some (ds,[])){v:Value}(hv:Ma P g w d v){Rk:List (ND F)}(hl:Tk ds Rk):Pt w g.Li (Rk,tt.Wn) v:=by
 have nd:=λ(vs:List Value)(hr:∀(k:Nat)(x:MJ F)(v:Value),cs[k]? = some x→vs[k]? = some v→Mh g w x v)=>jJ hm hle hds (g1:=g) (.refl g w) (by simp) vs hr
 have hlen:=iz hds;unfold tF at h;split at h
 ·rename_i x
  cases hs:tt.Wn with
  | true=>rw[hs]at h;cases h
  | false=>
   rw[hs]at h;cases h
   have h1:=nd [v] (λk x0 v0 a b=>by
    cases k with
    | zero=>cases a;cases b;exact bh hv
    | succ k=>simp at a)
   match ds,hlen,hl,h1 with
   | [d0],_,hl,h1=>
    match Rk,hl with
    | [d1],hl=>exact .one ((h1 0 d0 v rfl rfl).Xu (hl.2 0 d0 d1 rfl rfl))
    | [],hl=>exact absurd hl.1 (by simp)
    | _::_::_,hl=>exact absurd hl.1 (by simp)
   | [],hlen,_,_=>simp at hlen
   | _::_::_,hlen,_,_=>simp at hlen
 ·rename_i cs'
  cases hs:tt.Wn with
  | false=>rw[hs]at h;cases h
  | true=>
   rw[hs]at h;cases h
   cases hv with
   | agg hl2 hh=>
    rename_i vs;have h1:=nd vs hh
    refine .agg (by rw[hl2,← hlen,hl.1]) λk c x a b=>?_
    have hlt:k<ds.length:=by rw[hl.1];exact(K_.1 a).1
    exact(h1 k _ x (K9 hlt) b).Xu (hl.2 k _ c (K9 hlt) a)
 ·cases h
theorem xg(hT:Mc P T){t:TypeId}{x y z:Operand}(ho:o.op = .mapUpdate t x y z):Rule P o vals mm c K (sv T vals mm K t):=by
 unfold sv;split
 ·rename_i k v tt id kd d hmt;split
  ·rename_i TB l cs hid hcs;split
   ·rename_i V_;subst V_
    cases hko:SI TB (jf T k) kd with
    | false=>exact af
    | true=>
     simp only[cond_true];split
     ·rename_i ds hds;split
      ·rename_i ny hny;intro r hr;refine⟨_,hr,?_⟩;intro own g w a m u hle hm hd hall hfr hrep;rw[ho]at hrep;simp only[Op.operands,M9,Oi]at hrep;obtain⟨hx,hyz⟩:=aZ.1 hrep;obtain⟨hy,hz⟩:=M5 hyz;obtain⟨ti,ht,hde,hmp⟩:=va hmt;obtain⟨b,k1,k2,es,k3,k4,k5⟩:=rC hm (hle _ _ hid);obtain⟨b',c',k6,ex⟩:=rE (bh hx);rw[k2]at k6;cases k6;have hu:=hT.und _ _ ht;rw[hde]at hu
       cases hdk:jf T k with
       | none=>rw[hdk]at hko;unfold SI at hko;split at hko<;>(try cases hko);split at hko<;>simp_all
       | some dk=>
        rw[hdk]at hko
        have ZY:P.underlying k=some dk:=by
         unfold jf at hdk;split at hdk
         ·rename_i ti' ac4;cases hdk;exact hT.und _ _ ac4
         ·cases hdk
        have hkv:=c9 (bh hy);have hrel:=yB hko hkv k5;have hik:=(xn hko hkv).1;have hle2:=cA F hny
        cases he:LZ F TB ny with
        | nil=>rw[he]at hle2;exact absurd hle2.1 (by simp)
        | cons kd' Rk=>
         rw[he]at hle2
         have hl2:Tk ds Rk:=⟨by simpa using hle2.1,λk a b h1 h2=>hle2.2 (k+1) a b h1 h2⟩
         have hkd:U5 kd kd':=hle2.2 0 kd kd' rfl rfl;have hkv':L_ w g.Li kd' (a.eval y):=hkv.Xu hkd;have hval:=yO hm hle hcs hds hz hl2
         have done:∀(es':List MapEntry),(execOp a.eval o).run P w = .ok .skip (Sc w b (.map ⟨es'⟩ es'.length))→es'.length=(NP (Pv TB kd) l ny).length→
           (∀(k:Nat)(x:ET F TB)(e:MapEntry),(NP (Pv TB kd) l ny)[k]? = some x→es'[k]? = some e→e.born=k∧∃kd Rk,LZ F TB x=kd::Rk∧L_ w g.Li kd e.key∧Pt w g.Li (Rk,TB.Wn) e.val)→
           PY P own m u g w o a c { val:=.c .any,mw:=[(id,some (.mp TB (NP (Pv TB kd) l ny)))] }:=by
          intro es' hrun h1 h2
          obtain⟨w1,w2⟩:=se (ob:=.map ⟨es'⟩ es'.length) (B':=.mp TB (NP (Pv TB kd) l ny)) hm (hle _ _ hid) rfl (G.MH k2) (by intro hh hle';refine⟨b,k2,es',hh,h1,λk x e p q=>?_⟩;obtain⟨p1,kd0,ae3,p2,p3,p4⟩:=h2 k x e p q;exact⟨p1,kd0,ae3,p2,p3.mono hle'.Li hle'.heap,p4.mono hle'.Li hle'.heap⟩)
          intro next Q hn;unfold Oper.wp;rw[hrun];exact hn undef _ g (.c .any) w1 w2 (λid hu _=>hd id hu)
         rcases vD (p:=Pv TB kd) hik l es 0 k4 hrel with⟨f1,f2,f3,f4⟩ | ⟨j,x0,e0,f1,f2,f3,f4,f5,f6,f7⟩
         ·refine done (es++[{ key:=a.eval y,val:=a.eval z,born:=es.length }]) ?_ (by rw[f3];simp[k4]) ?_
          ·simp only[execOp,ho,ex,Instr.mapUpdate,OA,run_underlying hu,OM,MapKept.run_getObj_map k3,PD,MapKept.run_checkKey ZY hik,MapKept.run_findKey ZY f1,MapKept.run_setObj_map _ k3];simp[Sc]
          ·intro k x e p q;rw[f3]at p;by_cases hk:k<l.length
           ·rw[Rv hk]at p
            rw[Rv (by omega)]at q
            exact k5 k x e p q
           ·rw[RF (by omega)]at p
            rw[RF (by omega)]at q
            have hk0:k - l.length=0:=by have:=(K_.1 p).1;simp at this;omega
            rw[hk0]at p
            rw[show k - es.length=0 by omega]at q
            cases p;cases q
            exact⟨by show es.length=k;omega,kd',Rk,he,hkv',hval⟩
         ·have hjl:j<es.length:=(K_.1 f3).1
          refine done (es.set j { e0 with key:=a.eval y,val:=a.eval z }) ?_ (by rw[f6];simp[k4]) ?_
          ·have hst:(Instr.keyThatStays (((⟨es⟩:Array MapEntry)[0+j]?.map (·.key)).getD (a.eval y)) (a.eval y)).run P w = .ok (a.eval y) w:=by
            have e1:(((⟨es⟩:Array MapEntry)[0+j]?.map (·.key)).getD (a.eval y))=a.eval y:=by rw[OW,List.getElem?_toArray,f3];exact f4
            rw[e1];exact MapKept.run_keyThatStays hik
           have hmod:(⟨es⟩:Array MapEntry).modify (0+j) (λe=>{ e with key:=a.eval y,val:=a.eval z })=⟨es.set j { e0 with key:=a.eval y,val:=a.eval z }⟩:=by
            apply Array.toList_inj.1;apply QeM;intro i;rw[QdT,Array.getElem?_modify,List.getElem?_toArray];show _=(es.set j _)[i]?;rw[List.getElem?_set];by_cases hij:j=i
            ·subst hij;simp[hjl,f3];have:=(K_.1 f3).2;rw[this]
            ·simp[hij]
           simp only[execOp,ho,ex,Instr.mapUpdate,OA,run_underlying hu,OM,MapKept.run_getObj_map k3,PD,MapKept.run_checkKey ZY hik,MapKept.run_findKey ZY f1,hst,MapKept.run_setObj_map _ k3,hmod];simp[Sc]
          ·intro k x e p q;rw[f6]at p;rw[List.getElem?_set]at p q;by_cases hjk:j=k
           ·subst hjk
            rw[if_pos rfl,if_pos (by omega)]at p q
            cases p;cases q
            exact⟨(k5 j x0 e0 f2 f3).1,kd',Rk,he,hkv',hval⟩
           ·rw[if_neg hjk]at p q;exact k5 k x e p q
      ·exact af
     ·exact af
   ·exact af
  ·exact af
 ·exact af
end
set_option linter.unusedVariables false
set_option linter.unusedSimpArgs false
section
variable{F:Fam}{P:Program}{T:TypeId→Option (TI F)}{Γ : Ctx F}{o:Oper}{vals:List (Dat F)}{mm:Nat→Option (Mg F)}{c:Nat}{R:Type}{K:SS F→Option R}
variable{own:Ow}{g:G}{w:World}{m:Nat→Option (Mg F)}{u:Nat→Bool}{a:Act}
theorem Fi{t ty e:TypeId}{j:TypeInfo}{z:Value}(hu:P.underlying t=some (.slice e))(hj:P.info? e=some j)(hz:j.zero=some z){b q n cap:Nat}{cur:List Value}
  {e':TypeId} (hb:w.heap[b]? = some (.cells ⟨cur⟩ e' (0,0))) (hn:0<n) (h1:∀x∈(Builtin.zeroCells z.cells n).toList,x.oneCell'=true) (hfit:q+(Builtin.zeroCells z.cells n).toList.length≤cur.length) :
  (Builtin.clear_ #[t] ty #[.slice (some ⟨b,q,none⟩) n cap]).run P w =
    .ok (.tuple #[]) (w.setRow b (cur.take q++(Builtin.zeroCells z.cells n).toList++cur.drop (q+(Builtin.zeroCells z.cells n).toList.length)).toArray):=by
 have hst:=run_storeCells_at P b q e' (Builtin.zeroCells z.cells n).toList 0 ⟨cur⟩ w hb (by simpa using hfit) h1
 simp only[Vm]at hst
 obtain⟨m,rfl⟩:∃m,n=m+1:=⟨n - 1,by omega⟩
 simp[Builtin.clear_,run_underlying hu,zeroValue,typeInfo,hj,hz,hst]
theorem C4(hT:Mc P T)(hm:LQ own g w m)(hd:∀id,u id=false→g.ids id=none)
  {t e:TypeId} {i te:TI F} (ht:T t=some i) (hde:i.desc = .slice e) (hte:T e=some te) {tt:Ty} (hsz:LY F tt=te.size) (h0:0<te.size) {z0:ET F tt} (hz0:O4 F tt te.zero=some z0) {x:Operand}
  (ho:o.op = .call { callee:=.builtin .clear,args:=#[x],argTypes:=#[t] }) {l:List (ET F tt)} {id off n:Nat} (hrow:m id=some (.row tt l))
  (hdst:(g.ids id=none∨g.ids id=some none)∧off=0∧n=0∧(∃p,a.eval x = .slice p 0 0)∨∃b q dCap cap,g.ids id=some (some (b,cap,l.length,[]))∧a.eval x = .slice (some ⟨b,q,none⟩) n dCap∧off+n≤l.length∧(n=0∨q=off*LY F tt)) :
  PY P own m u g w o a c { val:=.Pp [],mw:=[(id,some (.row tt (Rn l off n (List.replicate n z0))))] }:=by
 have hu:=hT.und _ _ ht;rw[hde]at hu;obtain⟨j,z,hj,hs,hb,hz,hzs,hml,hzl,hmr⟩:=qI hT hte h0 n
 have PO:∀{v:Value}{w':World},(Builtin.clear_ #[t] o.type #[a.eval x]).run P w = .ok v w'→(execOp a.eval o).run P w = .ok (.value v) w':=by intro v w' hr;simp only[execOp,ho,resolve,invoke,builtin,OA,PD,OM,QgD,M9,Oi,hr]
 have same:∀{l':List (ET F tt)},l'=l→Ml m [(id,some (.row tt l'))]=m:=by
  rintro l' rfl
  funext x
  simp only[Ml];split
  ·rename_i hx;rw[← Rh hx,hrow]
  ·rfl
 have ae5:∀g' w',Ma (F:=F) P g' w' (.Pp []) (.tuple #[]):=λg' w'=>.Pp rfl (λj d x h=>by simp at h)
 by_cases hn0:n=0
 ·subst hn0
  have hl:Rn l off 0 (List.replicate 0 z0)=l:=by simp[Rn]
  have hrun:(execOp a.eval o).run P w = .ok (.value (.tuple #[])) w:=by
   refine PO ?_
   have:∃p q,a.eval x = .slice p 0 q:=by
    rcases hdst with⟨_,_,_,p,e⟩ | ⟨b,q,dCap,cap,_,e,_⟩
    ·exact⟨p,0,e⟩
    ·exact⟨_,_,e⟩
   obtain⟨p,q,e⟩:=this;rw[e]
   cases p<;>simp[Builtin.clear_,run_underlying hu]
  intro next Q hn;unfold Oper.wp;rw[hrun]
  exact hn _ w g (ae5 _ _) (by rw[same hl];exact hm) (.refl _ _ _) (λid hu _=>hd id hu)
 ·rcases hdst with⟨_,_,h,_⟩ | ⟨b,q,dCap,cap,hid,hxv,hoff,hq⟩
  ·exact absurd h hn0
  rcases hm.ok id _ hrow with⟨k1,_⟩ | ⟨b',cap2,cur,e',k1,k2,k3,k4,k5,k6⟩
  ·rw[k1]at hid;cases hid
  ·rw[k1]at hid;cases hid;have hq:q=off*LY F tt:=hq.resolve_left hn0;subst hq;have hcl:(cells F tt l).length=l.length*LY F tt:=aH
   have hcur:(cells F tt l).length≤cur.length:=by rw[hcl,k5];exact Rp _ k3
   obtain⟨zs,VE⟩:∃zs,zs=(Builtin.zeroCells z.cells n).toList:=⟨_,rfl⟩
   have hzm:zs=(madeCells z.cells (n*te.size)).toList:=by rw[VE];unfold Builtin.zeroCells madeCells;rw[hzs]
   have hfl:(List.replicate n te.zero).flatten.length=n*te.size:=by
    rw[lp (sz:=te.size) (λx hx=>by rw[List.mem_replicate]at hx;rw[hx.2,hzl])]
    simp
   have Zk:zs.length=n*LY F tt:=by rw[hzm,hml,hfl,hsz]
   have h1:∀x∈zs,x.oneCell'=true:=by
    intro x hx;obtain⟨k,hk⟩:=XT hx
    have hlt:k<(List.replicate n te.zero).flatten.length:=by have:=(K_.1 hk).1;rw[hfl,← hsz,← Zk];exact this
    exact(hmr w g.Li k _ x (K9 hlt) (by rw[← hzm];exact hk)).oneCell
   have hmin:min n (List.replicate n z0).length=n:=by simp
   have hm1:off+min n (List.replicate n z0).length≤l.length:=by rw[hmin];exact hoff
   have hfit:off*LY F tt+zs.length≤cur.length:=by rw[Zk,← Uk];have:(off+n)*LY F tt≤l.length*LY F tt:=Rp _ hoff;omega
   have hrun:=Fi (P:=P) (w:=w) (ty:=o.type) (n:=n) (cap:=dCap) (q:=off*LY F tt) hu hj hz k2 (by omega) (by rw[← VE];exact h1) (by rw[← VE];exact hfit)
   rw[← VE]at hrun;have hz2:Tk te.zero (LZ F tt z0):=cA F hz0
   obtain⟨w1,w2⟩:=uf (B':=.row tt (Rn l off n (List.replicate n z0))) (arr:=cur.take (off*LY F tt)++zs++cur.drop (off*LY F tt+zs.length)) hm hrow rfl k1 k2 (by
    intro hh hle'
    refine .inr ⟨b,cap,_,e',by rw[ux hm1];exact k1,hh,by rw[ux hm1];exact k3,k4,?_,?_⟩
    ·simp only[La,Oy,Ro];omega
    ·intro k d x p q;refine L_.le hle' ?_;rw[yd hm1]at p
     have hrl:(cells F tt (List.replicate n z0)).length=n*LY F tt:=by rw[aH,List.length_replicate]
     have ht0:(cells F tt (List.replicate n z0)).take (n*LY F tt)=cells F tt (List.replicate n z0):=Wv (by rw[hrl];exact MN _)
     rw[ht0]at p;refine rY (w:=w) (Li:=g.Li) (cs:=cells F tt l) (ds:=cells F tt (List.replicate n z0)) (cur:=cur) (vs:=zs) (q:=off*LY F tt) ?_ hcur k6 ?_ ?_ k d x p q
     ·rw[hrl,aH,← Uk];exact Rp _ hoff
     ·rw[Zk,hrl]
     ·intro k d x h3 h4
      have hk:k<n*LY F tt:=by rw[← hrl];exact(K_.1 h3).1
      have hlz:(LZ F tt z0).length=te.size:=by rw[bo,hsz]
      have e1:(cells F tt (List.replicate n z0))=(List.replicate n (LZ F tt z0)).flatten:=by simp[cells]
      rw[e1,fj _ (by rw[hlz];omega) n k (by rw[hlz,← hsz];exact hk),hlz]at h3
      have hk2:k<n*te.zero.length:=by rw[hzl,← hsz];exact hk
      have hk3:k % te.size<te.zero.length:=by rw[hzl];exact Nat.mod_lt _ (by omega)
      have e2:(List.replicate n te.zero).flatten[k]? = some te.zero[k % te.size]:=by
       rw[fj te.zero (by omega) n k hk2,hzl,K9 hk3]
      exact(hmr _ _ k _ x e2 (by rw[← hzm];exact h4)).Xu (hz2.2 (k % te.size) _ d (K9 hk3) h3))
   intro next Q hn;unfold Oper.wp
   rw[PO (by rw[hxv];exact hrun)]
   exact hn _ _ g (ae5 _ _) w1 w2 (λid hu _=>hd id hu)
theorem Dy(hT:Mc P T){t:TypeId}{x:Operand}(ho:o.op = .call { callee:=.builtin .clear,args:=#[x],argTypes:=#[t] }):Rule P o vals mm c K (Bb T vals mm K t):=by
 unfold Bb;split
 ·rename_i e _ _ _ _ _ id sz off n ht;split
  ·exact af
  ·rename_i te hte;split
   ·rename_i tt l hrow;refine aA (λhc=>?_) (λ_=>af);simp only[Np,decide_eq_true_eq,beq_iff_eq]at hc;obtain⟨⟨hsz,rfl⟩,h0⟩:=hc
    have h0:0<te.size:=by
     have:1≤te.size:=by simpa[Nat.blt]using h0
     omega
    split
    ·rename_i z hz;intro r' hr';refine⟨_,hr',?_⟩;intro own g w a m u hle hm hd hall hfr hrep;rw[ho]at hrep
     have h1:=Nw (by simpa[Op.operands,Call.operands]using hrep)
     refine C4 hT hm hd ht rfl hte hsz h0 hz ho (hle _ _ hrow) ?_;rcases oT (bh h1)with⟨hi,rfl,rfl,p,hv⟩ | ⟨b,c',len,q,hi,h5,h6,h7,h8,hv⟩
     ·exact .inl ⟨.inr hi,rfl,rfl,p,hv⟩
     ·obtain⟨rfl,_,_⟩:=cV hm (hle _ _ hrow) hi;refine .inr ⟨b,q,_,c',hi,hv,h5,?_⟩;rcases h7 with⟨h7,_⟩ | h7
      ·left;omega
      ·right;rw[h7,hsz]
    ·exact af
   ·exact af
 ·exact af
theorem EL(hT:Mc P T){t:TypeId}{x:Operand}{lo hi:Option Operand}(ho:o.op = .slice t x lo hi none){bb:Bool}(hc:(bb&&lo.isNone)=true):Rule P o vals mm c K (Y1 T vals mm c K t (ob hi 1)):=by
 have hlo:lo=none:=by cases lo with | none=>rfl | some _=>simp at hc
 subst hlo;clear hc;unfold Y1;split
 ·rename_i e _ _ _ _ _ id rest ht;split
  ·exact af
  ·rename_i te hte;split
   ·rename_i tt l hrow;refine aA (λhsz=>?_) (λ_=>af);split
    ·rename_i q hq;refine aE λpr hr=>?_;intro r' hr';refine⟨_,hr',?_⟩;intro own g w a m u hle hm hd hall hfr hrep;obtain⟨c1,c2,c3,rfl⟩:=FJ hr
     have hops:o.op.operands.toList.map a.eval=a.eval x::(hi.map a.eval).toList:=by
      rw[ho]
      cases hi<;>simp[Op.operands]
     rw[hops]at hrep;have hx0:=hrep.2 0 _ (a.eval x) rfl rfl
     have hhi:(hi.map a.eval=none∧q=l.length)∨∃k,hi.map a.eval=some (.int k q):=by
      cases hi with
      | none=>simp only[ob,bound,NJ]at hq;exact .inl ⟨rfl,hq.symm⟩
      | some y=>
       simp only[ob,bound]at hq;split at hq
       ·rename_i k n' hq';cases hq
        have:=hrep.2 1 _ (a.eval y) hq' (by simp)
        exact .inr ⟨k,by rw[Xy,cv this]⟩
       ·cases hq
     have run:∀{ptr:Option Addr}{cap:Nat},a.eval x = .slice ptr l.length cap→l.length≤cap→
       (execOp a.eval o).run P w = .ok (.value (.slice (if cap=0 then ptr else ptr.map (·.add 0)) q.toNat cap)) w:=by
      intro ptr cap e1 h5;have hu:=hT.und _ _ ht
      have hr:=n6 (P:=P) (w:=w) true l.length cap none (hi.map a.eval) 0 q (.inl ⟨rfl,rfl⟩) hhi (by omega) c2 (by omega)
      simp only[execOp,ho,Instr.sliceAt,Instr.slice,OA,run_underlying hu,OM,e1,Option.map_none];rw[hr];simp only[OM,b_ hT hte,PD];simp
     have Tt:g.ids c=none:=hd c (hfr 0 (by simp))
     have htk:(l.take (q.toNat - (0:Int).toNat)).length=q.toNat:=by rw[Oy];simp;omega
     have fin:∀{v:Value}{pl:Pl},(execOp a.eval o).run P w = .ok (.value v) w→
       (LQ own (g.name c pl) w (Ml m ([id].map (λr=>(r,none))++[(c,some (.row tt (l.take (q.toNat - (0:Int).toNat))))]))∧Stp m g w (g.name c pl) w)→Mh (F:=F) (g.name c pl) w (.Nn c) v→
       PY P own m u g w o a c { val:=.c (.Nn c),mw:=[(id,none),(c,some (.row tt (l.take (q.toNat - (0:Int).toNat))))],nu:=1 }:=by
      intro v pl hrun hst hv next Q hn;unfold Oper.wp;rw[hrun];refine hn _ _ _ (.c hv) hst.1 hst.2 ?_;intro y hy hcy
      have:y≠c:=by have hcy:y<c∨c+1≤y:=hcy;omega
      rw[cj _ _ _ this];exact hd y hy
     have hB:=hle _ _ hrow;rcases bu (bh hx0)with⟨hid,ptr,ev⟩ | ⟨b,c',len,hid,h5,h6,ev⟩
     ·rcases hm.ok id _ hB with⟨_,rfl⟩ | ⟨_,_,_,_,k1,_⟩
      ·simp only[WV]at c3 hq
       have hq0:q=0:=by omega
       subst hq0
       refine fin (pl:=none) (run (by simpa using ev) (MN _)) (kZ hm Tt (λ_ _ h=>by cases h) rfl rfl rfl (MN _) (MN _) (λ_ _ _=>rfl) (λg' _ hi=>.inl ⟨hi,by simp⟩)) ?_
       exact .PG _ (bv _ _ _)
      ·rw[hid]at k1;cases k1
     ·rcases hm.ok id _ hB with⟨k1,_⟩ | ⟨b',cap2,cur,e',k1,k2,k3,k4,k5,k6⟩
      ·rw[k1]at hid;cases hid
      rw[k1]at hid;cases hid;refine fin (pl:=some (b,c',q.toNat,[])) (run ev k3) (kZ (rm:=[id]) hm Tt ?_ rfl rfl rfl (MN _) (MN _) (λ_ _ _=>rfl) ?_) ?_
      ·intro b0 c0 e0 b1 hb1;cases e0;simp only[MO,Lb]at hb1;subst hb1
       exact .inr ⟨id,by simp,_,hB,rfl,G.MH k1⟩
      ·intro g' hle' hi
       refine .inr ⟨b,c',cur,e',by rw[htk];exact hi,k2,by rw[htk];omega,k4,k5,?_⟩
       intro k d x h1 h2
       have h1':(cells F tt l)[k]? = some d:=by
        have:=mu (F:=F) (l:=l) (a:=0) (n:=q.toNat - (0:Int).toNat);simp only[Fx.sub,Z5,Nat.zero_mul]at this;rw[this,RG]at h1;split at h1
        ·exact h1
        ·cases h1
       exact(k6 k d x h1' h2).mono hle'.Li hle'.heap
      ·have e:(if c'=0 then(some ⟨b,0,none⟩:Option Addr)else(some ⟨b,0,none⟩:Option Addr).map (·.add 0))=some ⟨b,0,none⟩:=by
        split
        ·rfl
        ·rfl
       rw[e]
       exact .Nn (n:=(q.toNat,[])) (bv _ _ _) (by dsimp only;omega) k4
    ·exact af
   ·exact af
 ·exact af
end
end Go.Fx
