/-
  The framework, second part: rules for steps, calls and maps. Conditions: none.
-/
import Derived.Test.YtdickabkndfjhaaGreatFxA
import Derived.Laws.Tables
namespace Go.Fx
open Go
set_option linter.unusedVariables false
set_option linter.unusedSimpArgs false
section
variable{F:Fam}{P:Program}{T:TypeId→Option (TI F)}{o:Oper}{vals:List (Dat F)}{mm:Nat→Option (Mi F)}{c:Nat}{R:Type}{K:SX F→Option R}{own:Ow}{g g':G}{w w':World}{m m':Nat→Option (Mi F)}
theorem ar{a b:Nat}(h:a≠b):Nat.beq a b=false:=by
 cases hb:Nat.beq a b with
 | false=>rfl
 | true=>exact absurd (Q_ hb) h
theorem bJ(a:Nat):Nat.beq a a=true:=YO a
theorem aN{x:Nat}:∀{l:List Nat},Mh x l=true↔x∈l
 | []=>by simp[Mh]
 | y::l=>by
  simp only[Mh];split
  ·rename_i h;have:=Q_ h;subst this;simp
  ·rename_i h
   have hne:x≠y:=by rintro rfl;simp[bJ]at h
   rw[aN];simp[hne]
theorem il(m:Nat→Option (Mi F)):∀(l r:List (Nat×Option (Mi F))),Ms m (l++r)=Ms (Ms m l) r
 | [],r=>rfl
 | (id,B)::l,r=>il _ l r
theorem d8:∀(mw:List (Nat×Option (Mi F))) (m:Nat→Option (Mi F)) (x:Nat),x∉mw.map (·.1)→Ms m mw x=m x
 | [],m,x,_=>rfl
 | (id,B)::r,m,x,h=>by simp only[Nr,NH,not_or]at h;simp only[Ms];rw[d8 r _ x h.2,ar (λe=>h.1 e.symm)];simp
theorem rg(m:Nat→Option (Mi F))(l:List (Nat×Option (Mi F)))(id:Nat)(B:Option (Mi F))(x:Nat):Ms m (l++[(id,B)]) x=if x=id then B else Ms m l x:=by
 rw[il];simp only[Ms];by_cases h:x=id
 ·subst h;simp
 ·rw[ar (λe=>h e.symm)];simp[h]
theorem LQ.Pd{S:Nat→Prop}(hm:LQ own g w m)(hl:Le g w g' w')
  (hsame:∀id,¬ S id→∀B,m' id=some B→m id=some B) (Ob:∀id,¬ S id→g'.ids id=g.ids id)
  (hkeep:∀id B b,¬ S id→m id=some B→B.owned=true→g.blk id b→w'.heap[b]? = w.heap[b]?∧¬ g'.Lj b)
  (hnew:∀id B,S id→m' id=some B→M_ g' w' id B∧∀b,B.owned=true→g'.blk id b→own.o b∧¬ g'.Lj b∧∀id' B',m' id'=some B'→B'.owned=true→g'.blk id' b→id'=id)
  (MR:∀b,g'.Lj b→b<w'.heap.size) (hio:∀b,g'.Lj b→own.i b∨own.o b) (hlen:∀b,g'.len b→¬ own.o b∧b<w'.heap.size):LQ own g' w' m':=by
 have hb:∀id b,¬ S id→g'.blk id b→g.blk id b:=by rintro id b hs ⟨b0,c,hc,hbb⟩;rw[Ob id hs]at hc;exact⟨b0,c,hc,hbb⟩
 refine⟨?_,?_,?_,MR,hio,hlen⟩
 ·intro id B h;by_cases hs:S id
  ·exact(hnew id B hs h).1
  ·have h0:=hsame id hs B h;exact(hm.ok id B h0).le hl (λho b hb'=>(hkeep id B b hs h0 ho hb').1)
 ·intro id id' B B' b h h' ho ho' k k';by_cases hs:S id
  ·exact(((hnew id B hs h).2 b ho k).2.2 id' B' h' ho' k').symm
  ·by_cases hs':S id'
   ·exact((hnew id' B' hs' h').2 b ho' k').2.2 id B h ho k
   ·exact hm.S_ id id' B B' b (hsame id hs B h) (hsame id' hs' B' h') ho ho' (hb id b hs k) (hb id' b hs' k')
 ·intro id B b h ho k;by_cases hs:S id
  ·exact⟨((hnew id B hs h).2 b ho k).1,((hnew id B hs h).2 b ho k).2.1⟩
  ·have h0:=hsame id hs B h;exact⟨(hm.own id B b h0 ho (hb id b hs k)).1,(hkeep id B b hs h0 ho (hb id b hs k)).2⟩
theorem LQ.sub(hm:LQ own g w m)(h:∀id B,m' id=some B→m id=some B):LQ own g w m':=
 ⟨λid B hB=>hm.ok id B (h id B hB),λid id' B B' b hB hB'=>hm.S_ id id' B B' b (h id B hB) (h id' B' hB'),λid B b hB=>hm.own id B b (h id B hB),hm.Lj,hm.io,hm.len⟩
def G.Rl(g:G)(ids:List Nat):G:=⟨g.ids,λb=>g.Lj b∨∃id∈ids,g.blk id b,g.len⟩
theorem p_(g:G)(w:World)(ids:List Nat):Le g w (g.Rl ids) w:=⟨λ_ _ h=>h,λ_ h=>.inl h,λ_ _=>rfl,λ_ h=>h,λ_ _=>rfl⟩
theorem Gd(hm:LQ own g w m){id:Nat}{t:Ty}{l:List (ET F t)}(h:m id=some (.row t l)){g1:G}(hle:Le g w g1 w)(MR:∀b,g.blk id b→g1.Lj b){v:Value}(hv:Mj (F:=F) g w (.Nl id) v):Md w g1.Lj (.sl t l) v:=by
 rcases bE hv with⟨hi,p,rfl⟩ | ⟨b,c,n,hi,h1,h2,rfl⟩
 ·rcases hm.ok id _ h with⟨_,rfl⟩ | ⟨b',cap,_,_,k1,_⟩
  ·exact .sl0 t p
  ·rw[hi]at k1;cases k1
 ·obtain⟨rfl,h4,h7⟩:=dj hm h hi;refine .sl t l b 0 c (λk=>(w.cell? ⟨b,k,none⟩).getD undef) (MR b (G.MI hi)) h4 h2 ?_ ?_
  ·intro k d hk;obtain⟨x,k1,k2⟩:=h7 k d hk;rw[OY,k1];rfl
  ·intro k d hk;obtain⟨x,k1,k2⟩:=h7 k d hk;rw[k1];exact k2.le hle
theorem Ab{Lj LU:Nat→Prop}(hi:∀b,Lj b→LU b){t:Ty}{l:List (ET F t)}{pl:Pl}(h:dD w Lj t l pl)(hb:∀b c,pl=some (b,c)→LU b){v:Value}(hv:Oo pl v):Md w LU (.sl t l) v:=by
 cases pl with
 | none=>obtain⟨p,rfl⟩:=hv;have h:l = []:=h;subst h;exact .sl0 t p
 | some q=>
  obtain⟨b,cap,n⟩:=q;obtain⟨rfl,q2,q3,cur,e,q4,q5,q6⟩:=h;have hv:v = .slice (some ⟨b,0,none⟩) l.length cap:=hv;subst hv
  have key:∀k d,(cells F t l)[k]? = some d→∃x,w.cell? ⟨b,k,none⟩=some x∧Md w LU d x:=by
   intro k d hk;have h7:k<(cells F t l).length:=(Lb.1 hk).1
   have hlt:k<cur.length:=by rw[aG]at h7;have:l.length*LV F t≤cap*LV F t:=Ro _ q2;omega
   exact⟨cur[k],by simp[World.cell?,q4,hlt],(q6 k d _ hk (La hlt)).mono hi (λ_ _=>rfl)⟩
  refine .sl t l b 0 cap (λk=>(w.cell? ⟨b,k,none⟩).getD undef) (hb b _ rfl) q2 q3 ?_ ?_
  ·intro k d hk;obtain⟨x,k1,k2⟩:=key k d hk;rw[OY,k1];rfl
  ·intro k d hk;obtain⟨x,k1,k2⟩:=key k d hk;rw[k1];exact k2
theorem DR{Lj LU:Nat→Prop}(hi:∀b,Lj b→LU b){d:ND F}{x:Value}{pl:Option (Nat×Nat×Nat)}(h:Oz w Lj d x pl)(hb:∀b c,pl=some (b,c)→LU b):Md w LU d x:=by
 cases d with
 | sl t l=>
  refine Ab hi h.1 ?_ h.2;intro b c e
  cases pl with
  | none=>cases e
  | some q=>obtain⟨b',c',n'⟩:=q;simp only[Nv,NI,Prod.mk.injEq]at e;exact hb b (c',n') (by rw[← e.1])
 | _=>exact h.2.2.mono hi (λ_ _=>rfl)
theorem yh(hm:LQ own g w m){id:Nat}{t:Ty}{l:List (ET F t)}(h:m id=some (.Nb t l)){g1:G}(hle:Le g w g1 w)(MR:∀b,g.blk id b→g1.Lj b){b c:Nat}{n:Nat×NS}(hi:g.ids id=some (some (b,c,n))) :
  n.1=l.length∧l.length≤c∧c≤maxLen∧∀k d,(cells F t l)[k]? = some d→∃x,w.cell? ⟨b,k,none⟩=some x∧Md w g1.Lj d x:=by
 obtain⟨k1,k2,k3,k4⟩:=ky hm h hi;refine⟨k1,k2,k3,λk d hk=>?_⟩;obtain⟨x,pl,h1,h2,h3⟩:=k4 k d hk;refine⟨x,h1,DR hle.Lj h3 ?_⟩;rintro b' c' rfl;exact MR b' ⟨b,(c,n),hi,U_ _ (kc h2)⟩
theorem DC(hm:LQ own g w m){id:Nat}{t:Ty}{l:List (ET F t)}(h:m id=some (.Nb t l)){g1:G}(hle:Le g w g1 w)(MR:∀b,g.blk id b→g1.Lj b){v:Value}(hv:Mj (F:=F) g w (.Nl id) v):Md w g1.Lj (.sl t l) v:=by
 rcases bE hv with⟨hi,p,rfl⟩ | ⟨b,c,n,hi,h1,h2,rfl⟩
 ·obtain⟨pl,k1,k2⟩:=hm.ok id _ h;rw[hi]at k1;cases k1;have k2:l = []:=k2;subst k2;exact .sl0 t p
 ·obtain⟨k1,h4,h5,h7⟩:=yh hm h hle MR hi;rw[k1];refine .sl t l b 0 c (λk=>(w.cell? ⟨b,k,none⟩).getD undef) (MR b (G.MI hi)) h4 h2 ?_ ?_
  ·intro k d hk;obtain⟨x,k1,k2⟩:=h7 k d hk;rw[OY,k1];rfl
  ·intro k d hk;obtain⟨x,k1,k2⟩:=h7 k d hk;rw[k1];exact k2
theorem Ir(hm:LQ own g w m){id:Nat}{t:Ty}{l:List (ET F t)}(h:m id=some (.row t l)){g1:G}(hle:Le g w g1 w)(MR:∀b,g.blk id b→g1.Lj b){sz off n:Nat}(hsz:sz=LV F t){v:Value}(hv:Mj (F:=F) g w (.Rz id sz off n) v):Md w g1.Lj (.sl t (sub l off n)) v:=by
 subst hsz;rcases pG hv with⟨hi,rfl,rfl,p,rfl⟩ | ⟨b,c,len,q,hi,h1,h2,h3,h4,rfl⟩
 ·have:sub l 0 0 = []:=by simp[Fx.sub]
  rw[this];exact .sl0 t p
 ·obtain⟨rfl,h5,h7⟩:=dj hm h hi
  have hlen:(sub l off n).length=n:=by simp only[Fx.sub,Ox,Rn];omega
  have key:∀(k:Nat)(d:ND F),(cells F t (sub l off n))[k]? = some d→∃x,w.cell? ⟨b,q+k,none⟩=some x∧Md w g1.Lj d x:=by
   intro k d hk;rcases h3 with⟨h3,_⟩ | h3
   ·have h0:n=0:=by omega
    subst h0;simp[Fx.sub,cells]at hk
   ·subst h3;obtain⟨x,k1,k2⟩:=h7 _ _ (mi hk);exact⟨x,k1,k2.le hle⟩
  have:=Md.sl (F:=F) (w:=w) (Lj:=g1.Lj) t (sub l off n) b q (c - off) (λk=>(w.cell? ⟨b,q+k,none⟩).getD undef) (MR b (G.MI hi)) (by omega) (by omega)
   (λk d hk=>by obtain⟨x,k1,k2⟩:=key k d hk;rw[k1];rfl) (λk d hk=>by obtain⟨x,k1,k2⟩:=key k d hk;rw[k1];exact k2)
  rwa [hlen]at this
theorem AN(hm:LQ own g w m)(hle:P7 mm m){x:MK F}{d:ND F}{ids:List Nat}(h:Sl mm x=some (d,ids)){g1:G}(hg:Le g w g1 w)(MR:∀id∈ids,∀b,g.blk id b→g1.Lj b){v:Value}(hv:Mj g w x v):Md w g1.Lj d v:=by
 unfold Sl at h;split at h
 ·cases h;exact(dn hv).le hg
 ·have hv:=vI hm hle hv;simp only[WI]at hv;unfold Za at h;split at h
  ·rename_i hrow;cases h
   exact Gd hm (hle _ _ hrow) hg (MR _ (by simp)) hv
  ·rename_i hrow;cases h
   exact DC hm (hle _ _ hrow) hg (MR _ (by simp)) hv
  ·rename_i hrow;cases h;exact(rz hm (hle _ _ hrow) hv).le hg
  ·cases h
 ·split at h
  ·rename_i hrow;split at h
   ·rename_i hsz;cases h
    exact Ir hm (hle _ _ hrow) hg (MR _ (by simp)) hsz hv
   ·cases h
  ·rename_i hrow;split at h
   ·rename_i hsz;cases h;exact(Bc hm (hle _ _ hrow) hsz hv).le hg
   ·cases h
  ·cases h
 ·cases h
def Z_(mm:Nat→Option (Mi F))(id:Nat):Prop:=∃t l,mm id=some (.row t l)∨mm id=some (.Nb t l)
theorem Z_.owned{id:Nat}(h:Z_ mm id):∃B,mm id=some B∧B.owned=true:=by
 obtain⟨t,l,h | h⟩:=h<;>exact⟨_,h,rfl⟩
theorem yB{x:MK F}{d:ND F}{ids:List Nat}(h:Sl mm x=some (d,ids)):∀id∈ids,Z_ mm id:=by
 unfold Sl at h;split at h
 ·cases h;simp
 ·unfold Za at h;split at h
  ·rename_i hrow;cases h;intro i hi;rw[Ld]at hi;subst hi;exact⟨_,_,.inl hrow⟩
  ·rename_i hrow;cases h;intro i hi;rw[Ld]at hi;subst hi;exact⟨_,_,.inr hrow⟩
  ·cases h;simp
  ·cases h
 ·split at h
  ·rename_i hrow;split at h
   ·cases h;intro i hi;rw[Ld]at hi;subst hi;exact⟨_,_,.inl hrow⟩
   ·cases h
  ·split at h
   ·cases h;simp
   ·cases h
  ·cases h
 ·cases h
theorem nD{x:MK F}{r:List (MK F)}{ds:List (ND F)}{ids:List Nat}(h:cS mm (x::r)=some (ds,ids)) :
  ∃d i ds' j,Sl mm x=some (d,i)∧cS mm r=some (ds',j)∧ds=d::ds'∧ids=i++j:=by
 simp only[cS]at h;split at h
 ·cases h
 ·rename_i d i hd;split at h
  ·cases h
  ·rename_i ds' j hr;cases h;exact⟨d,i,ds',j,hd,hr,rfl,rfl⟩
theorem o6:∀{cs:List (MK F)} {ds:List (ND F)} {ids:List Nat},cS mm cs=some (ds,ids)→∀id∈ids,Z_ mm id
 | [],ds,ids,h=>by simp only[cS,NI]at h;cases h;simp
 | x::r,ds,ids,h=>by
  obtain⟨d,i,ds',j,h1,h2,rfl,rfl⟩:=nD h;intro id hid;rcases N_.1 hid with hid | hid
  ·exact yB h1 id hid
  ·exact o6 h2 id hid
theorem ja:∀{cs:List (MK F)} {ds:List (ND F)} {ids:List Nat},cS mm cs=some (ds,ids)→ds.length=cs.length
 | [],ds,ids,h=>by simp only[cS,NI]at h;cases h;rfl
 | x::r,ds,ids,h=>by obtain⟨d,i,ds',j,h1,h2,rfl,rfl⟩:=nD h;simp[ja h2]
theorem kR(hm:LQ own g w m)(hle:P7 mm m):∀{cs:List (MK F)} {ds:List (ND F)} {ids:List Nat},cS mm cs=some (ds,ids)→∀{g1:G},Le g w g1 w→(∀id∈ids,∀b,g.blk id b→g1.Lj b)→
  ∀(vs:List Value),(∀(k:Nat)(x:MK F)(v:Value),cs[k]? = some x→vs[k]? = some v→Mj g w x v)→∀(k:Nat)(d:ND F)(v:Value),ds[k]? = some d→vs[k]? = some v→Md w g1.Lj d v
 | [],ds,ids,h,g1,_,_,vs,_,k,d,v,hd,_=>by simp only[cS,NI]at h;cases h;simp at hd
 | x::r,ds,ids,h,g1,hg,MR,vs,hr,k,d,v,hd,hv=>by
  obtain⟨d',i,ds',j,h1,h2,rfl,rfl⟩:=nD h
  match vs,hv with
  | [],hv=>simp at hv
  | u::us,hv=>
   cases k with
   | zero=>
    simp only[Rh,NI]at hd hv;subst hd hv
    exact AN hm hle h1 hg (λid hid=>MR id (by simp[hid])) (hr 0 x u rfl rfl)
   | succ k=>
    exact kR hm hle h2 hg (λid hid=>MR id (by simp[hid])) us (λk x v a b=>hr (k+1) x v a b) k d v (by simpa using hd) (by simpa using hv)
def R4(mm:Nat→Option (Mi F))(ids:List Nat):Prop:=
 ∀id∈ids,Z_ mm id∨(∃cs ds fz,mm id=some (.box cs)∧cS mm cs=some (ds,fz)∧∀x∈fz,x∈ids)∨∃cs,mm id=some (.box cs)∧(0:Nat)=0
theorem R4.Pq{ids:List Nat}(h:∀id∈ids,Z_ mm id):R4 mm ids:=λid hid=>.inl (h id hid)
theorem wi{ids:List Nat}{id:Nat}{t:Ty}{l:List (ET F t)}(h:mm id=some (.row t l)):UA mm ids id=some (.Tf t l):=by simp[UA,h]
theorem yD{ids:List Nat}{id:Nat}{t:Ty}{l:List (ET F t)}(h:mm id=some (.Nb t l)):UA mm ids id=some (.Tf t l):=by simp[UA,h]
theorem vV{ids:List Nat}{id:Nat}{cs:List (MK F)}{B:Mi F}(h:mm id=some (.box cs))(hB:UA mm ids id=some B):∃ds fz,cS mm cs=some (ds,fz)∧(∀x∈fz,x∈ids)∧B = .Z8 ds:=by
 unfold UA at hB;rw[h]at hB;dsimp only at hB;split at hB
 ·rename_i ds fz hc
  cases ha:fz.all (λx=>Mh x ids)with
  | false=>rw[ha]at hB;cases hB
  | true=>rw[ha]at hB;cases hB;refine⟨ds,fz,hc,λx hx=>?_,rfl⟩;have:=Tg.1 ha x hx;exact aN.1 this
 ·cases hB
theorem lE{ids:List Nat}{x:Nat}:Ms m (Ww mm ids) x=if x∈ids then UA mm ids x else m x:=by
 unfold Ww
 have gen:∀(B:Nat→Option (Mi F)) (ids:List Nat) (m:Nat→Option (Mi F)),Ms m (ids.map λid=>(id,B id)) x=if x∈ids then B x else m x:=by
  intro B ids
  induction ids with
  | nil=>intro m;simp[Ms]
  | cons i ids ih=>
   intro m;simp only[Nr,Ms,ih,NH];by_cases h1:x∈ids
   ·simp[h1]
   ·by_cases h2:x=i
    ·subst h2;simp
    ·rw[ar (λe=>h2 e.symm)];simp[h1,h2]
 exact gen (UA mm ids) ids m
theorem nK(hm:LQ own g w m)(hle:P7 mm m){ids:List Nat}(hf:R4 mm ids):LQ own (g.Rl ids) w (Ms m (Ww mm ids)):=by
 refine hm.Pd (S:=λid=>id∈ids) (p_ g w ids) ?_ (λ_ _=>rfl) ?_ ?_ ?_ ?_ hm.len
 ·intro id hid B hB;rw[lE,if_neg hid]at hB;exact hB
 ·intro id B b hid hB ho hb;refine⟨rfl,?_⟩;rintro(hi | ⟨id',NU,hb'⟩)
  ·exact(hm.own id B b hB ho hb).2 hi
  ·have Vj:∃B',m id'=some B'∧B'.owned=true:=by
    rcases hf id' NU with⟨t,l,h | h⟩ | ⟨cs,ds,fz,h,_⟩ | ⟨cs,h,_⟩
    ·exact⟨_,hle _ _ h,rfl⟩
    ·exact⟨_,hle _ _ h,rfl⟩
    ·exact⟨_,hle _ _ h,rfl⟩
    ·exact⟨_,hle _ _ h,rfl⟩
   obtain⟨B',h1,h2⟩:=Vj;have:=hm.S_ id id' B B' b hB h1 ho h2 hb hb';subst this;exact hid NU
 ·intro id B hid hB;rw[lE,if_pos hid]at hB
  have hf':Z_ mm id∨∃cs,mm id=some (.box cs):=by
   rcases hf id hid with h | ⟨cs,ds,fz,h,_⟩ | ⟨cs,h,_⟩
   ·exact .inl h
   ·exact .inr ⟨_,h⟩
   ·exact .inr ⟨_,h⟩
  rcases hf' with⟨t,l,h | h⟩ | ⟨cs,h⟩
  ·rw[wi h]at hB;cases hB
   refine⟨?_,λb ho=>by cases ho⟩
   rcases hm.ok id _ (hle _ _ h)with⟨k1,k2⟩ | ⟨b,cap,cur,e,k1,k2,k3,k4,k5,k6⟩
   ·exact .inl ⟨k1,k2⟩
   ·obtain⟨_,h4,h7⟩:=dj hm (hle _ _ h) k1
    refine .inr ⟨b,cap,[],k1,by simp[MP],.inr ⟨id,hid,G.MI k1⟩,k3,k4,λk d hk=>?_⟩
    obtain⟨x,q1,q2⟩:=h7 k d hk;exact⟨x,q1,q2.le (p_ g w ids)⟩
  ·rw[yD h]at hB;cases hB
   refine⟨?_,λb ho=>by cases ho⟩
   obtain⟨pl,k1,k2⟩:=hm.ok id _ (hle _ _ h)
   cases pl with
   | none=>exact .inl ⟨k1,k2⟩
   | some q=>obtain⟨b,cap,n,ns⟩:=q;obtain⟨q1,q2,q3,q4⟩:=yh hm (hle _ _ h) (p_ g w ids) (λb hb=>.inr ⟨id,hid,hb⟩) k1;have q1:n=l.length:=q1;subst q1;exact .inr ⟨b,cap,ns,k1,λb' hb'=>.inr ⟨id,hid,b,_,k1,U_ _ hb'⟩,.inr ⟨id,hid,G.MI k1⟩,q2,q3,q4⟩
  ·obtain⟨ds,fz,hc,hfz,rfl⟩:=vV h hB
   refine⟨?_,λb ho=>by cases ho⟩
   obtain⟨b,c,arr,t,k1,k2,k3,k4⟩:=hm.ok id _ (hle _ _ h);refine⟨b,c,k1,.inr ⟨id,hid,G.MI k1⟩,λk d hk=>?_⟩
   have hlt:k<arr.length:=by rw[k3,← ja hc];exact(Lb.1 hk).1
   refine⟨arr[k],by simp[World.cell?,k2,hlt],?_⟩
   exact kR hm hle hc (p_ g w ids) (λid' NU b' hb'=>.inr ⟨id',hfz id' NU,hb'⟩) arr k4 k d _ hk (La hlt)
 ·rintro b (hb | ⟨id,hid,hb⟩)
  ·exact hm.Lj b hb
  ·rcases hf id hid with⟨t,l,h | h⟩ | ⟨cs,ds,fz,h,_⟩ | ⟨cs,h,_⟩
   ·exact(hm.ok id _ (hle _ _ h)).place hm.Lj rfl hb
   ·exact(hm.ok id _ (hle _ _ h)).place hm.Lj rfl hb
   ·exact(hm.ok id _ (hle _ _ h)).place hm.Lj rfl hb
   ·exact(hm.ok id _ (hle _ _ h)).place hm.Lj rfl hb
 ·rintro b (hb | ⟨id,hid,hb⟩)
  ·exact hm.io b hb
  ·rcases hf id hid with⟨t,l,h | h⟩ | ⟨cs,ds,fz,h,_⟩ | ⟨cs,h,_⟩
   ·exact .inr (hm.own id _ b (hle _ _ h) rfl hb).1
   ·exact .inr (hm.own id _ b (hle _ _ h) rfl hb).1
   ·exact .inr (hm.own id _ b (hle _ _ h) rfl hb).1
   ·exact .inr (hm.own id _ b (hle _ _ h) rfl hb).1
theorem JE(hle:P7 mm m){ids:List Nat}(hf:R4 mm ids)(hs:Stp (Ms m (Ww mm ids)) (g.Rl ids) w g' w'):Stp m g w g' w':=by
 refine⟨(p_ g w ids).trans hs.le,hs.os,hs.tape,hs.output,hs.size,λb hb hno=>hs.frame b hb (λid B hB ho hk=>?_),hs.drawn⟩;rw[lE]at hB;split at hB
 ·rename_i hid;rcases hf id hid with⟨t,l,h | h⟩ | ⟨cs,ds,fz,h,hc,_⟩ | ⟨cs,h,hc⟩
  ·rw[wi h]at hB;cases hB;cases ho
  ·rw[yD h]at hB;cases hB;cases ho
  ·obtain⟨ds,fz,_,_,rfl⟩:=vV h hB;cases ho
  ·obtain⟨ds,fz,_,_,rfl⟩:=vV h hB;cases ho
 ·exact hno id B hB ho hk
theorem zu{u:Nat→Bool}{a:Act}{ids:List Nat}{res:SX F}(hle:P7 mm m)(hf:R4 mm ids)(h:PZ P own (Ms m (Ww mm ids)) u (g.Rl ids) w o a c res) :
  PZ P own m u g w o a c { res with mw:=Ww mm ids++res.mw }:=by
 intro next Q hn;refine h next Q ?_;intro v w' g' h1 h2 h3 h4
 exact hn v w' g' h1 (by rw[il];exact h2) (JE hle hf h3) h4
def G.name(g:G)(id:Nat)(p:Pl):G:=⟨λx=>if x=id then some p else g.ids x,g.Lj,g.len⟩
theorem bD(g:G)(id:Nat)(p:Pl):(g.name id p).ids id=some p:=by simp[G.name]
theorem cF(g:G)(id:Nat)(p:Pl){x:Nat}(h:x≠id):(g.name id p).ids x=g.ids x:=by simp[G.name,h]
theorem Le.name{id:Nat}{p:Pl}(hf:g.ids id=none)(hh:∀b,g.Lj b→w'.heap[b]? = w.heap[b]?)(hL:∀b,g.len b→w'.heap[b]? = w.heap[b]?):Le g w (g.name id p) w':=by
 refine⟨?_,λ_ h=>h,hh,λ_ h=>h,hL⟩;intro x r hx;by_cases hxi:x=id
 ·subst hxi;rw[hf]at hx;cases hx
 ·rw[cF g id p hxi];exact hx
theorem rA{rm:List Nat}{id:Nat}{B:Mi F}{x:Nat}(hx:x≠id){B':Mi F}(h:Ms m (rm.map (λr=>(r,none))++[(id,some B)]) x=some B'):m x=some B'∧x∉rm:=by
 rw[rg,if_neg hx]at h
 have gen:∀(rm:List Nat)(m:Nat→Option (Mi F)),Ms m (rm.map (λr=>(r,none))) x=some B'→m x=some B'∧x∉rm:=by
  intro rm
  induction rm with
  | nil=>intro m h;exact⟨h,by simp⟩
  | cons r rm ih=>
   intro m h;obtain⟨h1,h2⟩:=ih _ h;by_cases hr:r=x
   ·subst hr;rw[if_pos (bJ r)]at h1;cases h1
   ·rw[if_neg (by rw[ar hr];simp)]at h1
    exact⟨h1,λhx=>by rcases NH.1 hx with h | h;exact hr h.symm;exact h2 h⟩
 exact gen rm m h
theorem lN(hm:LQ own g w m){rm:List Nat}{id:Nat}{pl:Pl}{B:Mi F}(hf:g.ids id=none)
  (hpl:∀b0 c,pl=some (b0,c)→∀b∈b0::MP c.2.2,(w.heap.size≤b∧b<w'.heap.size∧own.o b)∨∃r∈rm,∃B0,m r=some B0∧B0.owned=true∧g.blk r b)
  (ho:w'.os=w.os) (ht:w'.tape=w.tape) (hou:w'.output=w.output) (hdr:w.drawn≤w'.drawn) (hs:w.heap.size≤w'.heap.size)
  (hne:∀b,b<w.heap.size→(∀r∈rm,∀B0,m r=some B0→B0.owned=true→¬ g.blk r b)→w'.heap[b]? = w.heap[b]?)
  (hB:∀g',Le g w g' w'→g'.ids id=some pl→M_ g' w' id B) :
  LQ own (g.name id pl) w' (Ms m (rm.map (λr=>(r,none))++[(id,some B)]))∧Stp m g w (g.name id pl) w':=by
 have hle:Le g w (g.name id pl) w':=.name hf (λb hb=>hne b (hm.Lj b hb) (λr _ B0 h1 h2 h3=>(hm.own r B0 b h1 h2 h3).2 hb)) (λb hb=>hne b (hm.len b hb).2 (λr _ B0 h1 h2 h3=>(hm.len b hb).1 (hm.own r B0 b h1 h2 h3).1));refine⟨?_,hle,ho,ht,hou,hs,λb hb hno=>hne b hb (λr _ B0 h1 h2=>hno r B0 h1 h2),hdr⟩;refine hm.Pd (S:=λx=>x=id∨x∈rm) hle (λx hx B' h=>(rA (λe=>hx (.inl e)) h).1) (λx hx=>cF _ _ _ (λe=>hx (.inl e))) ?_ ?_ (λb hb=>UK (hm.Lj b hb) hs) hm.io (λb hb=>⟨(hm.len b hb).1,UK (hm.len b hb).2 hs⟩)
 ·intro x Bx b hx hB' ho' hb;refine⟨hne b ((hm.ok x Bx hB').place hm.Lj (Mi.PV ho') hb) ?_,(hm.own x Bx b hB' ho' hb).2⟩;intro r hr B0 h1 h2 h3;have:=hm.S_ x r Bx B0 b hB' h1 ho' h2 hb h3;subst this;exact hx (.inr hr)
 ·intro x B' hx hB'
  have aoV:x=id:=by
   by_cases hxi:x=id
   ·exact hxi
   ·rcases hx with hx | hx
    ·exact hx
    ·exact absurd hx (rA hxi hB').2
  subst aoV;rw[rg,if_pos rfl]at hB';cases hB';refine⟨hB _ hle (bD _ _ _),?_⟩;rintro b hob ⟨b0,c',hc',hbb⟩;rw[bD]at hc';cases hc';rcases hpl b0 c' rfl b hbb with⟨h1,h2,h3⟩ | ⟨r,hr,B0,h1,h2,h3⟩
  ·refine⟨h3,λhb=>?_,?_⟩
   ·have:b<w.heap.size:=hm.Lj b hb;omega
   ·rintro y By hy hoy hby;by_cases hyx:y=x
    ·exact hyx
    ·have adG:g.blk y b:=by
      obtain⟨b1,c1,k1,k2⟩:=hby;rw[cF _ _ _ hyx]at k1;exact⟨b1,c1,k1,k2⟩
     have:=(hm.ok y By (rA hyx hy).1).place hm.Lj (Mi.PV hoy) adG;omega
  ·refine⟨(hm.own r B0 b h1 h2 h3).1,(hm.own r B0 b h1 h2 h3).2,?_⟩;rintro y By hy hoy hby;by_cases hyx:y=x
   ·exact hyx
   ·have adG:g.blk y b:=by
     obtain⟨b1,c1,k1,k2⟩:=hby;rw[cF _ _ _ hyx]at k1;exact⟨b1,c1,k1,k2⟩
    obtain⟨q1,q2⟩:=rA hyx hy;have:=hm.S_ y r By B0 b q1 h1 hoy h2 adG h3;subst this;exact absurd hr q2
theorem made(hm:LQ own g w m){rm:List Nat}{id:Nat}{cn:Nat×Nat}{arr:List Value}{t:TypeId}{B:Mi F}(hf:g.ids id=none)(hown:own.o w.heap.size){w1:World}(hw1:w1.heap=w.heap)(ho:w1.os=w.os)(ht:w1.tape=w.tape)(hou:w1.output=w.output)(hdr:w.drawn≤w1.drawn)
  (hB:∀g' w',Le g w g' w'→g'.ids id=some (some (w.heap.size,cn.1,cn.2,[]))→w'.heap[w.heap.size]? = some (.cells ⟨arr⟩ t (0,0))→M_ g' w' id B) :
  LQ own (g.name id (some (w.heap.size,cn.1,cn.2,[]))) (w1.alloc (.cells ⟨arr⟩ t)) (Ms m (rm.map (λr=>(r,none))++[(id,some B)]))∧Stp m g w (g.name id (some (w.heap.size,cn.1,cn.2,[]))) (w1.alloc (.cells ⟨arr⟩ t)):=by
 have hold:∀b,b<w.heap.size→(w1.alloc (.cells ⟨arr⟩ t)).heap[b]? = w.heap[b]?:=by
  intro b hb
  have:=heap_alloc_old w1 (.cells ⟨arr⟩ t) b (by rw[hw1];exact hb)
  rw[this,hw1]
 have hnew:(w1.alloc (.cells ⟨arr⟩ t)).heap[w.heap.size]? = some (.cells ⟨arr⟩ t (0,0)):=by have:=heap_alloc_new w1 (.cells ⟨arr⟩ t);rw[hw1]at this;exact this
 have hsz:(w1.alloc (.cells ⟨arr⟩ t)).heap.size=w.heap.size+1:=by rw[World.size_alloc,hw1]
 refine lN hm hf ?_ ho ht hou hdr (by omega) (λb hb _=>hold b hb) (λg' hle hi=>hB g' _ hle hi hnew)
 intro b0 c e b hb;cases e;simp only[MP,Ld]at hb;subst hb
 exact .inl ⟨MO _,by omega,hown⟩
theorem moved(hm:LQ own g w m){rm id b:Nat}{cn:Nat×Nat×NS}{Vy:Nat×Nat}{w':World}{B0 B:Mi F}(hf:g.ids id=none)(h0:m rm=some B0)(ho0:B0.owned=true)(hi:g.ids rm=some (some (b,cn)))
  (ho:w'.os=w.os) (ht:w'.tape=w.tape) (hou:w'.output=w.output) (hdr:w.drawn≤w'.drawn) (hs:w'.heap.size=w.heap.size) (hne:∀b',b'≠b→w'.heap[b']? = w.heap[b']?)
  (hB:∀g',Le g w g' w'→g'.ids id=some (some (b,Vy.1,Vy.2,[]))→M_ g' w' id B) :
  LQ own (g.name id (some (b,Vy.1,Vy.2,[]))) w' (Ms m [(rm,none),(id,some B)])∧Stp m g w (g.name id (some (b,Vy.1,Vy.2,[]))) w':=by
 refine lN (rm:=[rm]) hm hf ?_ ho ht hou hdr (by omega) ?_ hB
 ·intro b0 c e b' hb;cases e;simp only[MP,Ld]at hb;subst hb
  exact .inr ⟨rm,by simp,B0,h0,ho0,G.MI hi⟩
 ·intro b' hb hno
  exact hne b' (λe=>hno rm (by simp) B0 h0 ho0 (e▸G.MI hi))
theorem GM(hm:LQ own g w m){rm:List Nat}{id:Nat}{t:Ty}(hf:g.ids id=none) :
  LQ own (g.name id none) w (Ms m (rm.map (λr=>(r,none))++[(id,some (.row t []))]))∧Stp m g w (g.name id none) w:=by
 have hle:Le g w (g.name id none) w:=.name hf (λ_ _=>rfl) (λ_ _=>rfl)
 have less:∀x,x≠id→∀B',Ms m (rm.map (λr=>(r,none))++[(id,some (.row t []))]) x=some B'→m x=some B':=by
  intro x hx B' h;rw[rg,if_neg hx]at h
  have gen:∀(rm:List Nat)(m:Nat→Option (Mi F)),Ms m (rm.map (λr=>(r,none))) x=some B'→m x=some B':=by
   intro rm
   induction rm with
   | nil=>intro m h;exact h
   | cons r rm ih=>
    intro m h;have:=ih _ h;split at this
    ·cases this
    ·exact this
  exact gen rm m h
 refine⟨?_,hle,rfl,rfl,rfl,MO _,λ_ _ _=>rfl,MO _⟩;refine hm.Pd (S:=λx=>x=id) hle less (λx hx=>cF _ _ _ hx) ?_ ?_ hm.Lj hm.io hm.len
 ·intro x Bx b hx hB' ho' hb;exact⟨rfl,(hm.own x Bx b hB' ho' hb).2⟩
 ·rintro x B' rfl hB';rw[rg,if_pos rfl]at hB';cases hB';refine⟨.inl ⟨bD _ _ _,rfl⟩,?_⟩;rintro b _ ⟨b0,c',hc',_⟩;rw[bD]at hc';cases hc'
theorem zV(hm:LQ own g w m){id b:Nat}{old arr:List Value}{t:TypeId}{B B':Mi F}(hB:m id=some B)(ho:B.owned=true)(hblk:g.blk id b)(hb:w.heap[b]? = some (.cells ⟨old⟩ t (0,0)))
  (hB':(w.setRow b ⟨arr⟩).heap[b]? = some (.cells ⟨arr⟩ t (0,0))→Le g w g (w.setRow b ⟨arr⟩)→M_ g (w.setRow b ⟨arr⟩) id B') :
  LQ own g (w.setRow b ⟨arr⟩) (Ms m [(id,some B')])∧Stp m g w g (w.setRow b ⟨arr⟩):=by
 have hne:∀b',b'≠b→(w.setRow b ⟨arr⟩).heap[b']? = w.heap[b']?:=λb' h=>setRow_other w b b' _ h;have ZJ:¬ g.Lj b:=(hm.own id B b hB ho hblk).2;have hle:Le g w g (w.setRow b ⟨arr⟩):=⟨λ_ _ h=>h,λ_ h=>h,λb' hb'=>hne b' (λe=>ZJ (e▸hb')),λ_ h=>h,λb' hb'=>hne b' (λe=>(hm.len b' hb').1 (e▸(hm.own id B b hB ho hblk).1))⟩
 have less:∀x,x≠id→∀Bx,Ms m [(id,some B')] x=some Bx→m x=some Bx:=by intro x hx Bx h;simp only[Ms]at h;rw[ar (λe=>hx e.symm)]at h;simpa using h
 refine⟨?_,hle,rfl,rfl,rfl,by simp,?_,MO _⟩
 ·refine hm.Pd (S:=λx=>x=id) hle less (λ_ _=>rfl) ?_ ?_ ?_ hm.io (λb' hb'=>⟨(hm.len b' hb').1,by rw[size_setRow];exact(hm.len b' hb').2⟩)
  ·intro x Bx b' hx hBx hox hbx;refine⟨hne b' (λe=>hx ?_),(hm.own x Bx b' hBx hox hbx).2⟩;subst e;exact hm.S_ x id Bx B b' hBx hB hox ho hbx hblk
  ·rintro x Bx rfl hBx;simp only[Ms,bJ,if_true,NI]at hBx;subst hBx;refine⟨hB' (setRow_heap w b _ _ t _ hb) hle,?_⟩;rintro b' hob hb';refine⟨(hm.own x B b' hB ho hb').1,(hm.own x B b' hB ho hb').2,?_⟩;intro y By hy hoy hby;by_cases hyx:y=x
   ·exact hyx
   ·exact hm.S_ y x By B b' (less y hyx By hy) hB hoy ho hby hb'
  ·intro b' hb';rw[size_setRow];exact hm.Lj b' hb'
 ·intro b' _ hno;exact hne b' (λe=>hno id B hB ho (e▸hblk))
theorem uN(hm:LQ own g w m){id b:Nat}{cn:Nat×Nat×NS}{old arr:List Value}{t:TypeId}{B B':Mi F}(hB:m id=some B)(ho:B.owned=true)(hi:g.ids id=some (some (b,cn)))(hb:w.heap[b]? = some (.cells ⟨old⟩ t (0,0)))
  (hB':(w.setRow b ⟨arr⟩).heap[b]? = some (.cells ⟨arr⟩ t (0,0))→Le g w g (w.setRow b ⟨arr⟩)→M_ g (w.setRow b ⟨arr⟩) id B') :
  LQ own g (w.setRow b ⟨arr⟩) (Ms m [(id,some B')])∧Stp m g w g (w.setRow b ⟨arr⟩):=zV hm hB ho (G.MI hi) hb hB'
end
set_option linter.unusedVariables false
set_option linter.unusedSimpArgs false
section
variable{F:Fam}{P:Program}{T:TypeId→Option (TI F)}{o:Oper}{vals:List (Dat F)}{mm:Nat→Option (Mi F)}{c:Nat}{R:Type}{K:SX F→Option R}{own:Ow}{g g':G}{w w':World}{m m':Nat→Option (Mi F)}{u:Nat→Bool}{a:Act}
theorem qd(hm:LQ own g w m)(hd:∀id,u id=false→g.ids id=none)(hall:∀b,w.heap.size≤b→own.o b)(hfr:u c=false)
  {cn:Nat×Nat} {arr:List Value} {t:TypeId} {B:Mi F} {rm:List Nat} {d:Dat F} {w1:World} {v:Value} (hw1:w1.heap=w.heap) (ho:w1.os=w.os) (ht:w1.tape=w.tape) (hou:w1.output=w.output) (hdr:w.drawn≤w1.drawn)
  (hv:∀g' w',g'.ids c=some (some (w.heap.size,cn.1,cn.2,[]))→Me P g' w' d v)
  (hB:∀g' w',Le g w g' w'→g'.ids c=some (some (w.heap.size,cn.1,cn.2,[]))→w'.heap[w.heap.size]? = some (.cells ⟨arr⟩ t (0,0))→M_ g' w' c B)
  (hrun:(execOp a.eval o).run P w = .ok (.value v) (w1.alloc (.cells ⟨arr⟩ t))):PZ P own m u g w o a c { val:=d,mw:=rm.map (λr=>(r,none))++[(c,some B)],nu:=1 }:=by
 have hf:g.ids c=none:=hd c hfr;obtain⟨k1,k2⟩:=made (rm:=rm) (cn:=cn) hm hf (hall _ (MO _)) hw1 ho ht hou hdr hB;intro next Q hn;unfold Oper.wp;rw[hrun];refine hn _ _ (g.name c (some (w.heap.size,cn.1,cn.2,[]))) (hv _ _ (bD _ _ _)) k1 k2 ?_;intro x hu hx;have hx:x<c∨c+1≤x:=hx
 have:x≠c:=by omega
 rw[cF _ _ _ this];exact hd x hu
theorem vd{Lj:Nat→Prop}{cs ds:List (ND F)}(h:Tt cs ds){arr:List Value}(hr:∀(k:Nat)(d:ND F)(x:Value),cs[k]? = some d→arr[k]? = some x→Md w Lj d x) :
  ∀(k:Nat)(d:ND F)(x:Value),ds[k]? = some d→arr[k]? = some x→Md w Lj d x:=by
 intro k d x hd hx
 have hlt:k<cs.length:=by rw[h.1];exact(Lb.1 hd).1
 exact(hr k _ x (La hlt) hx).X8 (h.2 k _ d (La hlt) hd)
theorem oQ{cs ds cs' ds':List (ND F)}(h:Tt cs ds)(h':Tt cs' ds'):Tt (cs++cs') (ds++ds'):=by
 refine⟨by simp[h.1,h'.1],?_⟩
 intro k x y hx hy;by_cases hk:k<cs.length
 ·rw[Ru hk]at hx
  rw[Ru (by rw[← h.1];exact hk)]at hy
  exact h.2 k x y hx hy
 ·rw[RD (by omega)]at hx
  rw[RD (by rw[← h.1];omega),← h.1]at hy
  exact h'.2 _ x y hx hy
theorem pM{tt:Ty}{sz:Nat}(hs:LV F tt=sz):∀{n:Nat}{ds:List (ND F)} {l:List (ET F tt)},nJ tt sz n ds=some l→ds.length=n*sz→l.length=n∧Tt ds (cells F tt l)
 | 0,ds,l,h,hl=>by
  simp only[nJ,NI]at h;subst h
  have:ds = []:=TQ (by simpa using hl)
  subst this
  exact⟨rfl,rfl,by simp⟩
 | n+1,ds,l,h,hl=>by
  simp only[nJ]at h;split at h
  ·cases h
  ·rename_i x hx;split at h
   ·cases h
   ·rename_i r hr;cases h
    have hlen:(ds.drop sz).length=n*sz:=by rw[Rn,hl,TM];omega
    obtain⟨h1,h2⟩:=pM hs hr hlen
    refine⟨by simp[h1],?_⟩
    have:=oQ (cK F hx) h2;rw[Xe]at this;simpa[cells]using this
theorem Hn(hT:Mf P T)(hm:LQ own g w m)(hle:P7 mm m)(hd:∀id,u id=false→g.ids id=none)(hall:∀b,w.heap.size≤b→own.o b)(hfr:u c=false){elem:TypeId}{cs:List (MK F)}{v:Value}
  (hl:v.cells.toList.length=cs.length) (hr:∀(k:Nat)(x:MK F)(y:Value),cs[k]? = some x→v.cells.toList[k]? = some y→Mj g w x y)
  (hrun:(execOp a.eval o).run P w = .ok (.value (.pointer (some ⟨w.heap.size,0,none⟩))) (w.alloc (.cells v.cells elem))):PZ P own m u g w o a c { val:=.c (.ptr c 0),mw:=[(c,some (.box cs))],nu:=1 }:=by
 refine qd (rm:=[]) (cn:=(0,0)) (arr:=v.cells.toList) (t:=elem) hm hd hall hfr (w1:=w) rfl rfl rfl rfl (MO _) (λg' w' hi=>.c (.ptr hi)) ?_ hrun;intro g' w' hle hi hh;exact⟨w.heap.size,(0,0),v.cells.toList,elem,hi,hh,hl,λk c x h1 h2=>(hr k c x h1 h2).le hle⟩
theorem y7(hT:Mf P T){elem:TypeId}{cs:List (MK F)}
  (hsrc:cs.all MK.RP=true→0<cs.length→∀(g:G)(w:World)(a:Act),MG P g w vals (o.op.operands.toList.map a.eval)→∃v:Value,v.cells.toList.length=cs.length∧
   (∀(k:Nat)(x:MK F)(y:Value),cs[k]? = some x→v.cells.toList[k]? = some y→Mj g w x y)∧(execOp a.eval o).run P w = .ok (.value (.pointer (some ⟨w.heap.size,0,none⟩))) (w.alloc (.cells v.cells elem))) :
  Rule P o vals mm c K (Yg T mm c K elem cs):=by
 unfold Yg;split
 ·exact af
 ·rename_i ti hti;refine aA (λhc=>?_) (λ_=>af);simp only[Ng,decide_eq_true_eq,R6]at hc;obtain⟨⟨h1,h2⟩,h3⟩:=hc;have src:=hsrc h2 h3
  have apV:Rule P o vals mm c K (K { val:=.c (.ptr c 0),mw:=[(c,some (.box cs))],nu:=1 }):=by
   intro r hr;refine⟨_,hr,?_⟩;intro own g w a m u hle hm hd hall hfr hrep;obtain⟨v,k1,k2,k3⟩:=src g w a hrep
   exact Hn hT hm hle hd hall (hfr 0 (by simp)) k1 k2 k3
  split
  ·rename_i len e hde;split
   ·exact af
   ·rename_i te hte;split
    ·exact af
    ·rename_i tt Wi;split
     ·exact af
     ·rename_i ds fz hds;split
      ·exact af
      ·rename_i l hl;refine aA (λ_=>af) (λhc=>?_);simp only[UG,decide_eq_true_eq,bne_iff_ne,ne_eq,not_or,Decidable.not_not,UJ,QgD]at hc;obtain⟨⟨⟨⟨c1,c2⟩,c3⟩,c4⟩,c5⟩:=hc
       have c4:=Va (by simpa using c4)
       have c5:fz = []:=by simpa using c5
       subst c5;intro r hr;refine⟨_,hr,?_⟩;intro own g w a m u hle hm hd hall hfr hrep;obtain⟨v,k1,k2,k3⟩:=src g w a hrep;obtain⟨q1,q2⟩:=pM c3 hl c2
       refine qd (rm:=[]) (cn:=(len,l.length)) (arr:=v.cells.toList) (t:=elem) hm hd hall (hfr 0 (by simp)) (w1:=w) rfl rfl rfl rfl (MO _) (λg' w' hi=>.c (.ptr hi)) ?_ k3
       intro g' w' hle' hi hh
       refine .inr ⟨w.heap.size,len,v.cells.toList,elem,hi,hh,by omega,by simp only[maxLen];omega,?_,?_⟩
       ·rw[k1,← ja hds,c2,c3]
       ·intro k d x h4 h5
        exact(vd q2 (kR hm hle hds (Le.refl g w) (by simp) v.cells.toList k2) k d x h4 h5).le hle'
  ·exact apV
theorem Dn(hT:Mf P T){elem:TypeId}(ho:o.op = .alloc elem):Rule P o vals mm c K (match T elem with | some ti=>Yg T mm c K elem (ti.zero.map .im) | none=>none):=by
 split
 ·rename_i ti hti;refine y7 hT ?_;intro _ _ g w a _;obtain⟨j,z,hj,hz,hzl,hzr⟩:=xn hT hti
  exact⟨z,hzl,hzr w g,by simp[execOp,ho,Instr.alloc,zeroValue,typeInfo,hj,hz,newVar,newRow]⟩
 ·exact af
theorem Hk(hT:Mf P T){elem:TypeId}{x:Operand}(ho:o.op = .box elem x):Rule P o vals mm c K (match vals with | [x]=>Yg T mm c K elem x.cells | _=>none):=by
 split
 ·rename_i d;refine y7 hT ?_;intro h1 h2 g w a hr;rw[ho]at hr;obtain⟨k1,k2,_⟩:=m7 (Ny hr) h1 h2
  exact⟨a.eval x,k1,k2,by simp[execOp,ho,Instr.box,newVar,newRow]⟩
 ·exact af
theorem fL{α : Type}(l:List α)(h0:0<l.length):∀(n k:Nat),k<n*l.length→(List.replicate n l).flatten[k]? = l[k % l.length]?
 | 0,k,h=>by omega
 | n+1,k,h=>by
  simp only[QgJ,YQ];by_cases hk:k<l.length
  ·rw[Ru hk,Nat.mod_eq_of_lt hk]
  ·have hb:k - l.length<n*l.length:=by rw[TM]at h;omega
   rw[RD (by omega),fL l h0 n (k - l.length) hb]
   congr 1
   exact(Nat.mod_eq_sub_mod (by omega)).symm
theorem rf(hT:Mf P T){e:TypeId}{te:TI F}(he:T e=some te)(h0:0<te.size)(n:Nat):∃(j:TypeInfo)(z:Value),P.info? e=some j∧j.size=te.size∧j.bytes=te.bytes∧j.zero=some z∧z.cells.size=te.size∧
  (madeCells z.cells (n*te.size)).toList.length=(List.replicate n te.zero).flatten.length∧te.zero.length=te.size∧
  ∀(w:World)(Lj:Nat→Prop)(k:Nat)(d:ND F) (x:Value),(List.replicate n te.zero).flatten[k]? = some d→(madeCells z.cells (n*te.size)).toList[k]? = some x→Md w Lj d x:=by
 obtain⟨j,hj,hs,hb,z,hz,hzs,hzl,hr⟩:=hT.info e te he
 have hfl:(List.replicate n te.zero).flatten.length=n*te.size:=by
  rw[lT (sz:=te.size) (λx hx=>by rw[List.mem_replicate]at hx;rw[hx.2,hzl])]
  simp
 refine⟨j,z,hj,hs,hb,hz,hzs,by rw[hfl];simp[madeCells],hzl,?_⟩
 intro w Lj k d x h1 h2
 have hk:k<n*te.size:=by rw[← hfl];exact(Lb.1 h1).1
 rw[fL te.zero (by omega) n k (by rw[hzl];exact hk),hzl]at h1
 simp only[madeCells,Array.toList_map,Rf,Array.toList_range]at h2;rw[QgH hk]at h2;simp only[Ya,NI]at h2
 have hlt:k % te.size<z.cells.size:=by rw[hzs];exact Nat.mod_lt _ h0
 rw[hzs,getElem!_pos z.cells (k % te.size) hlt]at h2
 exact hr w Lj (k % te.size) d x h1 (by rw[QeF hlt,h2])
theorem KD{α : Type}{b:Nat}{n m:Int}{z:α}{r:List α}(h:Wh b n m z=some r):0≤n∧n≤m∧m.toNat≤maxLen∧b*m.toNat≤281474976710656∧r=List.replicate n.toNat z:=by
 unfold Wh at h;split at h
 ·rename_i hc;cases h;exact⟨hc.1,hc.2.1,hc.2.2.1,hc.2.2.2,rfl⟩
 ·cases h
theorem yq(hT:Mf P T){t:TypeId}{x y:Operand}(ho:o.op = .makeSlice t x y):Rule P o vals mm c K (Xg T vals c K t):=by
 unfold Xg;split
 ·rename_i e _ _ _ _ _ ht;split
  ·exact af
  ·rename_i te hte;split
   ·exact af
   ·rename_i tt Wi;refine aA (λ_=>af) (λhz0=>?_);split
    ·rename_i k n k' n' zz hzz;refine aE λl hl=>?_;obtain⟨v1,v2,v3,v4,rfl⟩:=KD hl;intro r hr;refine⟨_,hr,?_⟩;intro own g w a m u hle hm hd hall hfr hrep;rw[ho]at hrep;simp only[Op.operands,Nr,Oj]at hrep;obtain⟨h1,h2⟩:=M5 hrep
     obtain⟨j,z,hj,hs,hb,hz,hzs,hml,hzl,hmr⟩:=rf hT hte (by omega) n'.toNat
     have hn:(n'.toNat:Int)=n':=QgI (by omega)
     have hb6:(j.bytes:Int)*n'≤281474976710656:=by rw[hb,← hn,← Int.natCast_mul];omega
     have hm63:n'≤9223372036854775807:=by have h:=v3;simp only[maxLen]at h;omega
     have hrun:=run_make (P:=P) w t e j z (hT.und _ _ ht) hj hz k k' n n' v1 v2 hb6 hm63;rw[hs]at hrun;have hsz:=hT.ty e te tt hte Wi
     refine qd (rm:=[]) (cn:=(n'.toNat,n.toNat)) (arr:=(madeCells z.cells (n'.toNat*te.size)).toList) (t:=e) hm hd hall (hfr 0 (by simp)) (w1:=w) rfl rfl rfl rfl (MO _) ?_ ?_ (v:=.slice (some ⟨w.heap.size,0,none⟩) n.toNat n'.toNat) ?_
     ·intro g' w' hi
      exact .c (.Nl hi (by omega) v3)
     ·intro g' w' hle' hi hh
      refine .inr ⟨w.heap.size,n'.toNat,_,e,by simpa using hi,hh,by simp;omega,v3,by simp[madeCells,hsz],?_⟩
      have hz2:Tt te.zero (LZ F tt zz):=cK F hzz;intro k d x h3 h4
      have hlen:(cells F tt (List.replicate n.toNat zz)).length=n.toNat*LV F tt:=by rw[aG,List.length_replicate]
      have hk:k<n.toNat*LV F tt:=by rw[← hlen];exact(Lb.1 h3).1
      have hlz:(LZ F tt zz).length=te.size:=by rw[bC,hsz]
      have e1:(cells F tt (List.replicate n.toNat zz))=(List.replicate n.toNat (LZ F tt zz)).flatten:=by simp[cells]
      rw[e1,fL _ (by rw[hlz];omega) n.toNat k (by rw[hlz,← hsz];exact hk),hlz]at h3
      have hk2:k<n'.toNat*te.zero.length:=by
       rw[hzl];rw[hsz]at hk
       have:n.toNat*te.size≤n'.toNat*te.size:=Ro _ (by omega)
       omega
      have hk3:k % te.size<te.zero.length:=by rw[hzl];exact Nat.mod_lt _ (by omega)
      have e2:(List.replicate n'.toNat te.zero).flatten[k]? = some te.zero[k % te.size]:=by
       rw[fL te.zero (by omega) n'.toNat k hk2,hzl,La hk3]
      exact(hmr _ _ k _ x e2 h4).X8 (hz2.2 (k % te.size) _ d (La hk3) h3)
     ·simp only[execOp,ho,cJ h1,cJ h2,OB,hrun,OO,PL]
    ·exact af
 ·exact af
theorem DV{t:TypeId}{x y:Operand}{n:Nat}(h:rQ T t x y=some n):∃ti e k1 k2 b d q z,T t=some ti∧ti.desc = .slice e∧x = .const (.int k1 n)∧y = .const (.int k2 n)∧T e=some ⟨.slice d,1,b,[.nl],q,z⟩∧0<n∧n≤8∧b≤1000:=by
 unfold rQ at h;split at h
 ·rename_i e _ _ _ _ _ n' m' ht hx hy;split at h
  ·rename_i d b q z he;split at h
   ·rename_i hc;obtain⟨rfl,h1,h2,h3⟩:=hc;cases h
    have lit:∀{x:Operand}{n:Nat},aaG x=some n→∃k,x = .const (.int k n):=by
     intro x n hx;unfold aaG at hx;split at hx
     ·cases hx;exact⟨_,rfl⟩
     ·cases hx
    obtain⟨k1,e1⟩:=lit hx;obtain⟨k2,e2⟩:=lit hy;exact⟨_,e,k1,k2,b,d,q,z,ht,rfl,e1,e2,he,h1,h2,h3⟩
   ·cases h
  ·cases h
 ·cases h
theorem DM(hT:Mf P T){t:TypeId}{x y:Operand}(ho:o.op = .makeSlice t x y){n:Nat}(hn:rQ T t x y=some n):Rule P o vals mm c K (Fm c K n):=by
 obtain⟨ti,e,k1,k2,b,d,q,zz,ht,hde,rfl,rfl,hte,n1,n2,n3⟩:=DV hn;have hu:=hT.und _ _ ht;rw[hde]at hu;intro r hr;refine⟨_,hr,?_⟩;intro own g w a m u hle hm hd hall hfr hrep
 obtain⟨j,z,hj,hs,hb,hz,hzs,hml,hzl,hmr⟩:=rf hT hte (by simp) n
 have hs:j.size=1:=hs;have hb:j.bytes=b:=hb
 have hb6:(j.bytes:Int)*(n:Int)≤281474976710656:=by rw[hb,← Int.natCast_mul];have:b*n≤1000*8:=QeO n3 n2;omega
 have hrun:=run_make (P:=P) w t e j z hu hj hz k1 k2 n n (by omega) (YG _) hb6 (by omega)
 rw[hs]at hrun;simp only[TG,Nat.mul_one]at hrun
 have hml':(madeCells z.cells n).toList.length=n:=by simp[madeCells]
 refine qd (rm:=[]) (cn:=(0,0)) (arr:=(madeCells z.cells n).toList) (t:=e) hm hd hall (hfr 0 (by simp)) (w1:=w) rfl rfl rfl rfl (MO _) ?_ ?_ (v:=.slice (some ⟨w.heap.size,0,none⟩) n n) ?_
 ·intro g' w' hi
  exact .c (.TF hi (by simp only[maxLen];omega))
 ·intro g' w' hle' hi hh
  refine⟨w.heap.size,(0,0),_,e,hi,hh,by rw[hml'];simp,?_⟩
  intro k cc v h1 h2;rw[List.getElem?_replicate]at h1;split at h1
  ·rename_i hk;cases h1
   have e2:(List.replicate n ([.nl]:List (ND F))).flatten[k]? = some .nl:=by
    rw[fL _ (by simp) n k (by simpa using hk)]
    simp[Nat.mod_one]
   have:=hmr w' g'.Lj k .nl v e2 (by simpa using h2)
   exact .im this
  ·cases h1
 ·simp only[execOp,ho,OB,Act.eval,hrun,OO,PL]
theorem rM(hT:Mf P T){t:TypeId}{len:Nat}{parts:Array (Nat×Operand)}(ho:o.op = .buildSlice t len parts){el:TypeId}{i te:TI F}(ht:T t=some i)(hde:i.desc = .slice el)(hte:T el=some te)(hs0:¬ te.size=0)(hs1:¬ 1048576<len*te.size){cs:List (MK F)}
  (hcs:lay (λi=>some (i*te.size,te.size)) ((List.replicate len te.zero).flatten.map .im) ((parts.toList.map (·.1)).zip vals)=some cs) (hrep:MG P g w vals (o.op.operands.toList.map a.eval)) :
  ∃arr:List Value,arr.length=cs.length∧(∀(k:Nat)(c:MK F)(x:Value),cs[k]? = some c→arr[k]? = some x→Mj g w c x)∧(execOp a.eval o).run P w = .ok (.value (.slice (some ⟨w.heap.size,0,none⟩) len len)) (w.alloc (.cells ⟨arr⟩ el)):=by
 rw[ho]at hrep
 have akP:MG P g w vals (parts.toList.map λp=>a.eval p.2):=by
  have:(Op.buildSlice t len parts).operands.toList.map a.eval=parts.toList.map λp=>a.eval p.2:=by simp[Op.operands,Function.comp_def]
  rwa [this]at hrep
 have h0:0<te.size:=by omega
 obtain⟨j,z,hj,hs,hb,hz,hzs,hml,hzl,hmr⟩:=rf hT hte h0 len;obtain⟨p1,p2⟩:=uA parts.toList vals akP;obtain⟨arr,r1,r2,r3,r4⟩:=v7 (P:=P) (g:=g) (w:=w) (λi=>some (i*te.size,te.size)) _ (parts.toList.map λ(i,x)=>(i,a.eval x)) _ cs (madeCells z.cells (len*te.size)).toList hcs p1 p2
  (by rw[hml,PI]) (by intro k c x h1 h2;obtain⟨d,hd',rfl⟩:=kO h1;exact .im (hmr w g.Lj k d x hd' h2))
 have hrun:(execOp a.eval o).run P w = .ok (.value (.slice (some ⟨w.heap.size,0,none⟩) len len)) (w.alloc (.cells ⟨arr⟩ el)):=by
  have hu:=hT.und _ _ ht;rw[hde]at hu;have hu:=run_underlying hu w;have hsz:=cv hT hte w
  have Xv:Instr.fill (λi=>some (i*te.size,te.size)) (madeCells z.cells (len*te.size)) (parts.map λ(i,x)=>(i,a.eval x)).toList=some ⟨arr⟩:=by simpa using r1
  unfold madeCells at Xv
  have hzv:(zeroValue el).run P w = .ok z w:=by simp[zeroValue,typeInfo,hj,hz]
  have hbig:¬ (16777216<len*te.size):=by omega
  by_cases hz0:len*te.size=0
  ·have hl0:len=0:=by
    rcases Nat.mul_eq_zero.1 hz0 with h | h
    ·exact h
    ·omega
   subst hl0
   have e0:∀z0:Array Value,(Array.range (0*te.size)).map (λx=>z0[x % z0.size]!) = #[]:=λz0=>by simp
   rw[e0]at Xv;simp only[execOp,ho,Instr.buildSlice,OB,hu,OO,hsz]
   rw[if_neg (by simp),if_pos hz0]
   simp only[PL,OO,e0,Xv,newRow,OB,run_newObj,World.alloc_eq]
  ·simp only[execOp,ho,Instr.buildSlice,OB,hu,OO,hsz]
   rw[if_neg (by simpa using hbig),if_neg hz0]
   simp only[OB,hzv,OO,PL,Xv,newRow,run_newObj,World.alloc_eq]
 exact⟨arr,r2,r4,hrun⟩
theorem wZ(hT:Mf P T){t:TypeId}{len:Nat}{parts:Array (Nat×Operand)}(ho:o.op = .buildSlice t len parts):Rule P o vals mm c K (rF T vals mm c K t len (parts.toList.map (·.1))):=by
 unfold rF;split
 ·rename_i el sz bt zero _ _ ht;split
  ·exact af
  ·rename_i te hte;split
   ·exact af
   ·rename_i tt Wi;refine aA (λ_=>af) (λhsm=>?_);simp only[UG,decide_eq_true_eq,not_or,R6,bne_iff_ne,ne_eq,Decidable.not_not]at hsm;obtain⟨⟨hs0,hs1⟩,hsz⟩:=hsm;split
    ·exact af
    ·rename_i cs hcs;split
     ·exact af
     ·rename_i ds fz hds;split
      ·exact af
      ·rename_i l hl;refine aA (λhc=>?_) (λ_=>af);simp only[Ng,decide_eq_true_eq]at hc;obtain⟨hlen,_⟩:=hc;intro r hr;refine⟨_,hr,?_⟩;intro own g w a m u hle hm hd hall hfr hrep;have hf:R4 mm fz:=R4.Pq (o6 hds);refine zu (res:={ val:=.c (.Nl c),mw:=[(c,some (.row tt l))],nu:=1 }) hle hf ?_;have hm1:=nK hm hle hf
       have h0:0<te.size:=by omega
       obtain⟨arr,r2,r4,hrun⟩:=rM hT ho ht rfl hte hs0 hs1 hcs hrep;obtain⟨q1,q2⟩:=pM hsz hl hlen;have hcell:=kR hm hle hds (p_ g w fz) (λid hid b hb=>.inr ⟨id,hid,hb⟩) arr r4
       have hml':len≤maxLen:=by have:len≤len*te.size:=Nat.le_mul_of_pos_right _ h0;simp only[maxLen];omega
       refine qd (rm:=[]) (cn:=(len,len)) (arr:=arr) (t:=el) hm1 hd hall (hfr 0 (by simp)) (w1:=w) rfl rfl rfl rfl (MO _) (λg' w' hi=>.c (.Nl hi (MO _) hml')) ?_ hrun
       intro g' w' hle' hi hh
       refine .inr ⟨w.heap.size,len,arr,el,by rw[q1];exact hi,hh,by omega,hml',?_,?_⟩
       ·rw[r2,← ja hds,hlen,hsz]
       ·intro k d x h1 h2;exact(vd q2 hcell k d x h1 h2).le hle'
 ·exact af
def Vr(g:G):Option Nat→Option (Nat×Nat×Nat)
 | some id=>match g.ids id with
  | some (some (b,c,n,_))=>some (b,c,n)
  | _=>none
 | none=>none
theorem Ku{id b:Nat}{c:Nat×Nat}(h:Vr g (some id)=some (b,c)):g.blk id b:=by
 simp only[Vr]at h;split at h
 ·rename_i h1;cases h;exact G.MI h1
 ·cases h
theorem GN(hm:LQ own g w m){id:Nat}{t:Ty}{l:List (ET F t)}(h:m id=some (.row t l)):dD w g.Lj t l (Nv (Vr g (some id))):=by
 rcases hm.ok id _ h with⟨h1,h2⟩ | ⟨b,cap,cur,e,k1,k2,k3,k4,k5,k6⟩
 ·simp[Vr,h1,Nv,dD,h2]
 ·have:Vr g (some id)=some (b,cap,l.length):=by simp[Vr,k1]
  rw[this];exact⟨rfl,k3,k4,cur,e,k2,k5,k6⟩
theorem GL(hm:LQ own g w m){id:Nat}{t:Ty}{l:List (ET F t)}(h:m id=some (.row t l)){v:Value}(hv:Mj (F:=F) g w (.Nl id) v):Oo (Nv (Vr g (some id))) v:=by
 rcases bE hv with⟨hi,p,rfl⟩ | ⟨b,c,n,hi,h1,h2,rfl⟩
 ·simp[Vr,hi,Nv,Oo]
 ·obtain⟨rfl,_,_⟩:=dj hm h hi;simp[Vr,hi,Nv,Oo]
theorem vj:∀{cs:List (MK F)} {ds:List (ND F)} {os:List (Option Nat)},ot mm cs=some (ds,os)→ds.length=cs.length∧os.length=cs.length∧∀(k:Nat)(c:MK F)(d:ND F)(o:Option Nat),cs[k]? = some c→ds[k]? = some d→os[k]? = some o→
  (∃id t l,c = .Nl id∧mm id=some (.row t l)∧d = .sl t l∧o=some id)∨(c = .im .nl∧d = .nl∧o=none)∨(c = .im d∧d.flat=true∧o=none)
 | [],ds,os,h=>by
  simp only[ot,NI,Prod.mk.injEq]at h;obtain⟨rfl,rfl⟩:=h
  exact⟨rfl,rfl,λk c d o h=>by simp at h⟩
 | c::r,ds,os,h=>by
  have next:∀{d':ND F}{o':Option Nat}{ds':List (ND F)} {os':List (Option Nat)},ot mm r=some (ds',os')→
    ((∃id t l,c = .Nl id∧mm id=some (.row t l)∧d' = .sl t l∧o'=some id)∨(c = .im .nl∧d' = .nl∧o'=none)∨(c = .im d'∧d'.flat=true∧o'=none))→
    (d'::ds').length=(c::r).length∧(o'::os').length=(c::r).length∧∀(k:Nat)(c0:MK F)(d:ND F)(o:Option Nat),(c::r)[k]? = some c0→(d'::ds')[k]? = some d→(o'::os')[k]? = some o→
     (∃id t l,c0 = .Nl id∧mm id=some (.row t l)∧d = .sl t l∧o=some id)∨(c0 = .im .nl∧d = .nl∧o=none)∨(c0 = .im d∧d.flat=true∧o=none):=by
   intro d' o' ds' os' h1 h2;obtain⟨k1,k2,k3⟩:=vj h1
   refine⟨by simp[k1],by simp[k2],?_⟩
   intro k c0 d o q1 q2 q3
   cases k with
   | zero=>simp only[Rh,NI]at q1 q2 q3;subst q1 q2 q3;exact h2
   | succ k=>exact k3 k c0 d o (by simpa using q1) (by simpa using q2) (by simpa using q3)
  unfold ot at h;split at h
  ·rename_i heq;cases heq
  ·rename_i id r' heq;cases heq;split at h
   ·rename_i t l hrow;split at h
    ·rename_i ds' os' hr;cases h;exact next hr (.inl ⟨id,t,l,rfl,hrow,rfl,rfl⟩)
    ·cases h
   ·cases h
  ·rename_i r' heq;cases heq;split at h
   ·rename_i ds' os' hr;cases h;exact next hr (.inr (.inl ⟨rfl,rfl,rfl⟩))
   ·cases h
  ·rename_i d r' hnn heq;cases heq;split at h
   ·rename_i hf;split at h
    ·rename_i ds' os' hr;cases h;exact next hr (.inr (.inr ⟨rfl,hf,rfl⟩))
    ·cases h
   ·cases h
  ·cases h
theorem sG{x:Nat}:∀{l:List (Option Nat)},x∈Mx l↔some x∈l
 | []=>by simp[Mx]
 | none::l=>by simp[Mx,sG (l:=l)]
 | some y::l=>by simp[Mx,sG (l:=l)]
theorem tB(hm:LQ own g w m):∀{os:List (Option Nat)},eK (Mx os)=true→(∀id,some id∈os→∃B,m id=some B∧B.owned=true)→(MP (os.map (Vr g))).Nodup∧∀b∈MP (os.map (Vr g)),∃id,some id∈os∧g.blk id b
 | [],_,_=>⟨QeB,λb hb=>by simp[MP]at hb⟩
 | none::os,hn,ho=>by
  obtain⟨h1,h2⟩:=tB hm (os:=os) (by simpa[Mx]using hn) (λid hid=>ho id (by simp[hid]))
  refine⟨by simpa[Vr,MP]using h1,λb hb=>?_⟩
  obtain⟨id,q1,q2⟩:=h2 b (by simpa[Vr,MP]using hb)
  exact⟨id,by simp[q1],q2⟩
 | some id::os,hn,ho=>by
  simp only[Mx,eK,Ng,UJ]at hn
  obtain⟨h1,h2⟩:=tB hm (os:=os) hn.2 (λid hid=>ho id (by simp[hid]))
  simp only[Nr]
  cases hp:Vr g (some id)with
  | none=>
   refine⟨by simpa[MP]using h1,λb hb=>?_⟩
   obtain⟨id,q1,q2⟩:=h2 b (by simpa[MP]using hb)
   exact⟨id,by simp[q1],q2⟩
  | some q=>
   obtain⟨b0,c0⟩:=q;have hb0:=Ku hp;refine⟨?_,?_⟩
   ·simp only[MP,Un];refine⟨λhb=>?_,h1⟩;obtain⟨id',q1,q2⟩:=h2 b0 hb
    obtain⟨B,r1,r2⟩:=ho id (by simp)
    obtain⟨B',r3,r4⟩:=ho id' (by simp[q1])
    have:=hm.S_ id id' B B' b0 r1 r3 r2 r4 hb0 q2;subst this;have:=aN.2 (sG.2 q1);rw[this]at hn;cases hn.1
   ·intro b hb;simp only[MP,NH]at hb;rcases hb with rfl | hb
    ·exact⟨id,by simp,hb0⟩
    ·obtain⟨id,q1,q2⟩:=h2 b hb
     exact⟨id,by simp[q1],q2⟩
theorem Kv{t:Ty}{c:ND F}{x:ET F t}(h:Vl F t c=some x):enc1 F t x≠.nl:=by
 unfold Vl at h
 split at h<;>first | (intro e;cases e;done) | cases h
theorem B9:∀{ts:List Ty}{cs:List (ND F)} {a:M7 F ts},Vk F ts cs=some a→∀d∈OW F ts a,d≠.nl
 | [],cs,a,h,d,hd=>by simp[OW]at hd
 | t::r,cs,a,h,d,hd=>by
  cases cs with
  | nil=>simp[Vk]at h
  | cons c cs=>
   simp only[Vk]at h;split at h
   ·cases h
   ·rename_i x hx;split at h
    ·cases h
    ·rename_i y hy;cases h;rcases NH.1 hd with rfl | hd
     ·exact Kv hx
     ·exact B9 hy d hd
theorem rP{t:Ty}{cs:List (ND F)}{x:ET F t}(h:O7 F t cs=some x):∀d∈LZ F t x,d≠.nl:=by
 unfold O7 at h;split at h
 ·split at h
  ·cases h
  ·rename_i a ha;cases h;simp only[LZ,F.um];exact B9 ha
 all_goals first | (intro d hd;simp only[LZ,Ld]at hd;subst hd;intro e;cases e;done) | cases h
theorem Fd{Lj:Nat→Prop}{d d':ND F}{x:Value}(hf:d.flat=true)(hl:Vb d d')(h:Md w Lj d x):Oz w Lj d' x none:=by
 cases hl with
 | refl=>
  cases d with
  | sl t' l'=>cases hf
  | _=>exact⟨rfl,hf,h⟩
 | nl t'=>cases hf
theorem yt{tt:Ty}{sz:Nat}:∀{n:Nat}{ds:List (ND F)} {l:List (ET F tt)},nJ tt sz n ds=some l→∀d∈cells F tt l,d≠.nl
 | 0,ds,l,h,d,hd=>by simp only[nJ,NI]at h;subst h;simp[cells]at hd
 | n+1,ds,l,h,d,hd=>by
  simp only[nJ]at h;split at h
  ·cases h
  ·rename_i x hx;split at h
   ·cases h
   ·rename_i r hr;cases h;simp only[cells,Nr,YQ,N_]at hd;rcases hd with hd | hd
    ·exact rP hx d hd
    ·exact yt hr d hd
theorem vR(hT:Mf P T){t:TypeId}{len:Nat}{parts:Array (Nat×Operand)}(ho:o.op = .buildSlice t len parts):Rule P o vals mm c K (rb T vals mm c K t len (parts.toList.map (·.1))):=by
 unfold rb;split
 ·rename_i el sz bt zero _ _ ht;split
  ·exact af
  ·rename_i te hte;split
   ·exact af
   ·rename_i tt Wi;refine aA (λ_=>af) (λhsm=>?_);simp only[UG,decide_eq_true_eq,not_or,R6,bne_iff_ne,ne_eq,Decidable.not_not]at hsm;obtain⟨⟨hs0,hs1⟩,hsz⟩:=hsm;split
    ·exact af
    ·rename_i cs hcs;split
     ·exact af
     ·rename_i ds os hds;split
      ·exact af
      ·rename_i l hl;refine aA (λhc=>?_) (λ_=>af);simp only[Ng,decide_eq_true_eq]at hc;obtain⟨hlen,hnd⟩:=hc;intro r hr;refine⟨_,hr,?_⟩;intro own g w a m u hle hm hd hall hfr hrep
       have h0:0<te.size:=by omega
       obtain⟨arr,r2,r4,hrun⟩:=rM hT ho ht rfl hte hs0 hs1 hcs hrep;obtain⟨q1,q2⟩:=pM hsz hl hlen
       have hml':len≤maxLen:=by have:len≤len*te.size:=Nat.le_mul_of_pos_right _ h0;simp only[maxLen];omega
       obtain⟨n1,n2,n3⟩:=vj hds
       have hrows:∀id,some id∈os→∃t l,m id=some (.row t l):=by
        intro id hid;obtain⟨k,hk⟩:=Ye hid;have hlt:=(Lb.1 hk).1
        rcases n3 k _ _ _ (La (by omega)) (La (by omega)) hk with⟨id',t',l',_,e2,_,e4⟩ | ⟨_,_,e⟩ | ⟨_,_,e⟩
        ·cases e4;exact⟨t',l',hle _ _ e2⟩
        ·cases e
        ·cases e
       have WT:∀id,some id∈os→∃B,m id=some B∧B.owned=true:=λid hid=>by obtain⟨t',l',h⟩:=hrows id hid;exact⟨_,h,rfl⟩
       obtain⟨d1,d2⟩:=tB hm hnd WT;have hold:∀b,b<w.heap.size→(w.alloc (.cells ⟨arr⟩ el)).heap[b]? = w.heap[b]?:=λb hb=>heap_alloc_old w _ b hb
       have hlow:∀b∈MP (os.map (Vr g)),b<w.heap.size:=by intro b hb;obtain⟨id,e1,e2⟩:=d2 b hb;obtain⟨B,e3,e4⟩:=WT id e1;exact(hm.ok id B e3).place hm.Lj (Mi.PV e4) e2
       have hR:LQ own (g.name c (some (w.heap.size,len,len,os.map (Vr g)))) (w.alloc (.cells ⟨arr⟩ el)) (Ms m ((Mx os).map (λr=>(r,none))++[(c,some (.Nb tt l))]))∧Stp m g w (g.name c (some (w.heap.size,len,len,os.map (Vr g)))) (w.alloc (.cells ⟨arr⟩ el)):=by
        refine lN (rm:=Mx os) hm (hd c (hfr 0 (by simp))) ?_ rfl rfl rfl (MO _) (by rw[World.size_alloc];omega) (λb hb _=>hold b hb) ?_
        ·intro b0 c0 e b hb;cases e;rcases NH.1 hb with rfl | hb
         ·exact .inl ⟨MO _,by rw[World.size_alloc];omega,hall _ (MO _)⟩
         ·obtain⟨id,e1,e2⟩:=d2 b hb;obtain⟨B,e3,e4⟩:=WT id e1;exact .inr ⟨id,sG.2 e1,B,e3,e4,e2⟩
        ·intro g' hle' hi'
         have hcl:(cells F tt l).length=len*te.size:=by rw[aG,q1,hsz]
         refine⟨_,hi',q1.symm,by rw[q1];exact MO _,hml',?_,?_,arr,el,heap_alloc_new w _,?_,?_⟩
         ·rw[PI,n2,← n1,hlen,hcl]
         ·refine Un.2 ⟨λhb=>?_,d1⟩;have:=hlow _ hb;omega
         ·rw[r2,← n1,hlen,hsz]
         ·intro k d x pl p1 p2 p3
          have hk:k<cs.length:=by rw[← r2];exact(Lb.1 p2).1
          rw[Rf,Wp]at p3;obtain⟨o',ho',rfl⟩:=p3
          have hdk:ds[k]? = some ds[k]:=La (by omega)
          have hl1:Vb ds[k] d:=q2.2 k _ d hdk p1;have hrep:=r4 k _ x (La hk) p2;refine Oz.Pd (w:=w) (Lj:=g.Lj) hle'.Lj hle'.heap ?_ ?_
          ·intro b c1 e
           exact hold b (hlow b (kc (k:=k) (c:=c1) (by rw[Rf,ho'];exact congrArg some e)))
          ·rcases n3 k _ _ _ (La hk) hdk ho' with⟨id,t',l',e1,e2,e3,rfl⟩ | ⟨e1,e2,rfl⟩ | ⟨e1,e2,rfl⟩
           ·rw[e3]at hl1;cases hl1;rw[e1]at hrep;exact⟨GN hm (hle _ _ e2),GL hm (hle _ _ e2) hrep⟩
           ·rw[e2]at hl1;rw[e1]at hrep;generalize hdd:d=d0 at hl1 ⊢
            cases hl1 with
            | refl=>exact absurd (hdd.symm▸rfl:d = .nl) (yt hl d (Wx p1))
            | nl t'=>obtain⟨p,rfl⟩:=p7 (P:=P) (.c hrep);exact⟨rfl,p,rfl⟩
           ·rw[e1]at hrep;have hrep:=dn hrep;exact Fd e2 hl1 hrep
       obtain⟨k1,k2⟩:=hR;intro next Q hn;unfold Oper.wp;rw[hrun];refine hn _ _ _ (.c (.Nl (n:=(len,os.map (Vr g))) (bD _ _ _) (MO _) hml')) k1 k2 ?_;intro x hu hx;have hx:x<c∨c+1≤x:=hx
       have:x≠c:=by omega
       rw[cF _ _ _ this];exact hd x hu
 ·exact af
end
set_option linter.unusedVariables false
set_option linter.unusedSimpArgs false
section
variable{F:Fam}{P:Program}{T:TypeId→Option (TI F)}{o:Oper}{vals:List (Dat F)}{mm:Nat→Option (Mi F)}{c:Nat}{R:Type}{K:SX F→Option R}{own:Ow}{g g':G}{w w':World}{m m':Nat→Option (Mi F)}{u:Nat→Bool}{a:Act}
theorem Bj{α : Type}{sz:Nat}:∀{es:List (List α)} (_:∀e∈es,e.length=sz) {i:Nat} {cs ds:List α} (_:es[i]? = some cs) (_:ds.length=cs.length),
  (es.set i ds).flatten=es.flatten.take (i*sz)++ds++es.flatten.drop (i*sz+sz)
 | [],_,i,_,_,h,_=>by simp at h
 | x::es,hsz,0,cs,ds,h,hl=>by
  simp only[Rh,NI]at h;subst h
  have hx:x.length=sz:=hsz x (by simp)
  have h2:(x++es.flatten).drop sz=es.flatten:=by rw[← hx,List.drop_left]
  simp[h2]
 | x::es,hsz,i+1,cs,ds,h,hl=>by
  simp only[QdK]at h
  have hx:x.length=sz:=hsz x (by simp)
  have ih:=Bj (es:=es) (λe he=>hsz e (by simp[he])) h hl
  have e1:(i+1)*sz=x.length+i*sz:=by rw[TM,hx];omega
  simp only[List.set_cons_succ,YQ,ih]
  rw[e1,show x.length+i*sz+sz=x.length+(i*sz+sz)by omega,List.take_length_add_append,List.drop_length_add_append]
  simp only[PS]
theorem tE{t:Ty}{l:List (ET F t)}{i:Nat}{x y:ET F t}(h:l[i]? = some x):cells F t (l.set i y)=(cells F t l).take (i*LV F t)++LZ F t y++(cells F t l).drop (i*LV F t+LV F t):=by
 unfold cells;rw[List.map_set]
 refine Bj qV (cs:=LZ F t x) (by rw[Rf,h];rfl) (by rw[bC,bC])
theorem sj{Lj:Nat→Prop}{cs ds:List (ND F)}{cur vs:List Value}{q:Nat}(hq:q+ds.length≤cs.length)(hc:cs.length≤cur.length)
  (hr:∀(k:Nat)(d:ND F)(x:Value),cs[k]? = some d→cur[k]? = some x→Md w Lj d x) (hl:vs.length=ds.length)
  (hv:∀(k:Nat)(d:ND F)(x:Value),ds[k]? = some d→vs[k]? = some x→Md w Lj d x) :
  ∀(k:Nat)(d:ND F)(x:Value),(cs.take q++ds++cs.drop (q+ds.length))[k]? = some d→(cur.take q++vs++cur.drop (q+vs.length))[k]? = some x→Md w Lj d x:=by
 intro k d x h1 h2
 have e1:(cs.take q).length=q:=by simp;omega
 have e2:(cur.take q).length=q:=by simp;omega
 rw[PS]at h1 h2;by_cases hk:k<q
 ·rw[Ru (by omega),RF,if_pos hk]at h1
  rw[Ru (by omega),RF,if_pos hk]at h2
  exact hr k d x h1 h2
 ·rw[RD (by omega),e1]at h1
  rw[RD (by omega),e2]at h2
  by_cases hk2:k - q<ds.length
  ·rw[Ru hk2]at h1
   rw[Ru (by omega)]at h2
   exact hv _ d x h1 h2
  ·rw[RD (by omega),Tc]at h1
   rw[RD (by omega),Tc]at h2
   rw[hl]at h2;exact hr _ d x h1 h2
theorem qh{t:Ty}{l:List (ET F t)}{i k:Nat}{x y:ET F t}{d:ND F}(h:l[i]? = some x)(hk:(cells F t (l.set i y))[k]? = some d) :
  (∃j,k=i*LV F t+j∧(LZ F t y)[j]? = some d)∨((k<i*LV F t∨i*LV F t+LV F t≤k)∧(cells F t l)[k]? = some d):=by
 have hi:i<l.length:=(Lb.1 h).1;have hcl:(cells F t l).length=l.length*LV F t:=aG
 have hbig:i*LV F t+LV F t≤(cells F t l).length:=by rw[hcl];have:(i+1)*LV F t≤l.length*LV F t:=Ro _ hi;rw[TM]at this;omega
 have e1:((cells F t l).take (i*LV F t)).length=i*LV F t:=by rw[Ox];omega
 rw[tE h,PS]at hk;by_cases h1:k<i*LV F t
 ·rw[Ru (by omega),RF,if_pos h1]at hk
  exact .inr ⟨.inl h1,hk⟩
 ·rw[RD (by omega),e1]at hk
  by_cases h2:k - i*LV F t<LV F t
  ·rw[Ru (by rw[bC];exact h2)]at hk
   exact .inl ⟨k - i*LV F t,by omega,hk⟩
  ·rw[RD (by rw[bC];omega),bC,Tc]at hk
   refine .inr ⟨.inr (by omega),?_⟩
   rw[← hk]
   congr 1
   omega
theorem xt{b:Nat}:∀{ns:NS},(MP ns).Nodup→∀{k k':Nat}{c c':Nat×Nat},ns[k]? = some (some (b,c))→ns[k']? = some (some (b,c'))→k=k'
 | [],_,k,k',c,c',h,_=>by simp at h
 | none::ns,hn,k,k',c,c',h,h'=>by
  cases k with
  | zero=>simp at h
  | succ k=>
   cases k' with
   | zero=>simp at h'
   | succ k'=>exact congrArg (· + 1) (xt (ns:=ns) hn (k:=k) (k':=k') (c:=c) (c':=c') (by simpa using h) (by simpa using h'))
 | some (b0,c0)::ns,hn,k,k',c,c',h,h'=>by
  simp only[MP,Un]at hn
  cases k with
  | zero=>
   cases k' with
   | zero=>rfl
   | succ k'=>
    simp only[Rh,NI,Prod.mk.injEq]at h
    exact absurd (kc (ns:=ns) (by simpa using h')) (h.1▸hn.1)
  | succ k=>
   cases k' with
   | zero=>
    simp only[Rh,NI,Prod.mk.injEq]at h'
    exact absurd (kc (ns:=ns) (by simpa using h)) (h'.1▸hn.1)
   | succ k'=>exact congrArg (· + 1) (xt (ns:=ns) hn.2 (k:=k) (k':=k') (c:=c) (c':=c') (by simpa using h) (by simpa using h'))
theorem vW{Lj:Nat→Prop}{d d':ND F}{x:Value}{pl:Option (Nat×Nat×Nat)}(hl:Vb d d')(h:Oz w Lj d x pl):d'=d:=by
 cases hl with
 | refl=>rfl
 | nl t=>exact absurd h.2.1 (by simp[TH.flat])
theorem DZ{Lj:Nat→Prop}{t':Ty}{l:List (ET F t')}{i off:Nat}{el nw:ET F t'}{ds:List (ND F)}{cur vs:List Value}(hel:l[i]? = some el)(h3:off+ds.length≤LV F t')(hnw:O7 F t' ((LZ F t' el).take off++ds++(LZ F t' el).drop (off+ds.length))=some nw)
  (hcur:(cells F t' l).length≤cur.length) (k6:∀(k:Nat)(d:ND F)(x:Value),(cells F t' l)[k]? = some d→cur[k]? = some x→Md w Lj d x) (hl:vs.length=ds.length)
  (hv:∀(k:Nat)(d:ND F)(x:Value),ds[k]? = some d→vs[k]? = some x→Md w Lj d x) :
  ∀(k:Nat)(d:ND F)(x:Value),(cells F t' (l.set i nw))[k]? = some d→(cur.take (i*LV F t'+off)++vs++cur.drop (i*LV F t'+off+ds.length))[k]? = some x→Md w Lj d x:=by
 intro k d x p q;have hile:i<l.length:=(Lb.1 hel).1;have hcl:(cells F t' l).length=l.length*LV F t':=aG
 have hbig:i*LV F t'+LV F t'≤(cells F t' l).length:=by rw[hcl];have:(i+1)*LV F t'≤l.length*LV F t':=Ro _ hile;rw[TM]at this;omega
 rw[tE hel]at p;have hels:(LZ F t' el).length=LV F t':=bC F t' el
 have hov:=sj (w:=w) (Lj:=Lj) (cs:=cells F t' l) (ds:=ds) (cur:=cur) (vs:=vs) (q:=i*LV F t'+off) (by omega) hcur k6 hl hv
 rw[hl]at hov;have TU:=cK F hnw
 have hin:(cells F t' l).take (i*LV F t')++(LZ F t' el).take off=(cells F t' l).take (i*LV F t'+off):=by
  rw[List.take_add]
  congr 1
  apply QeI;intro j;rw[RF,RF];split
  ·rw[Tc]
   have hj:j<(LZ F t' el).length:=by omega
   rw[La hj,a_ hel (La hj)]
  ·rfl
 have hout:(LZ F t' el).drop (off+ds.length)++(cells F t' l).drop (i*LV F t'+LV F t')=(cells F t' l).drop (i*LV F t'+off+ds.length):=by
  apply QeI;intro j;rw[Tc];by_cases hj:off+ds.length+j<LV F t'
  ·rw[Ru (by rw[Rn,hels];omega),Tc]
   have hj2:off+ds.length+j<(LZ F t' el).length:=by omega
   rw[La hj2];have:=a_ hel (La hj2);rw[← this]
   congr 1
   omega
  ·rw[RD (by rw[Rn,hels];omega),Tc,Rn,hels]
   congr 1
   omega
 have ZK:Tt ((cells F t' l).take (i*LV F t'+off)++ds++(cells F t' l).drop (i*LV F t'+off+ds.length)) ((cells F t' l).take (i*LV F t')++LZ F t' nw++(cells F t' l).drop (i*LV F t'+LV F t')):=by
  rw[← hin,← hout]
  have hrefl:∀l:List (ND F),Tt l l:=λl=>⟨rfl,λk c d h1 h2=>by rw[h1]at h2;cases h2;exact .refl _⟩
  have:=oQ (oQ (hrefl ((cells F t' l).take (i*LV F t'))) TU) (hrefl ((cells F t' l).drop (i*LV F t'+LV F t')));simpa[PS]using this
 exact vd ZK hov k d x p q
theorem tp:∀{cs:List (MK F)} {ds:List (ND F)} {ids:List Nat},cS mm cs=some (ds,ids)→cs.all MK.RP=true
 | [],ds,ids,_=>rfl
 | y::cs,ds,ids,h=>by
  obtain⟨d,i',ds',j,q1,q2,_,_⟩:=nD h;simp only[QeJ,Ng];refine⟨?_,tp q2⟩
  cases y<;>first | rfl | simp[Sl]at q1
theorem Dc(hT:Mf P T){t:TypeId}{x y:Operand}(ho:o.op = .store t x y):Rule P o vals mm c K (zq T vals mm K t):=by
 unfold zq;split
 ·exact af
 ·rename_i ti hti
  have key:∀{w:World}{a:Act}{b q:Nat}{cur:List Value} {e:TypeId} {vs:List Value},a.eval x = .pointer (some ⟨b,q,none⟩)→w.heap[b]? = some (.cells ⟨cur⟩ e (0,0))→(a.eval y).cells.toList=vs→vs.length=ti.size→
    (∀v∈vs,v.oneCell'=true)→q+vs.length≤cur.length→(execOp a.eval o).run P w = .ok .skip (w.setRow b ⟨cur.take q++vs++cur.drop (q+vs.length)⟩):=by
   intro w a b q cur e vs e1 hb e2 hl h1 hle;have hsz:=cv hT hti w
   have hs:=run_storeCells_at (P:=P) b q e vs 0 ⟨cur⟩ w hb (by simpa using hle) h1
   simp only[U9]at hs
   have hsize:(a.eval y).cells.size=ti.size:=by rw[← WA,e2,hl]
   simp only[execOp,ho,e1,Instr.storeAt,Instr.sureAddr,OB,PL,OO,storeVar,hsz,hsize,ne_eq,not_true_eq_false,if_false,e2,hs]
  split
  ·rename_i id off v;split
   ·rename_i cs Pn;dsimp only;refine aA (λhc=>?_) (λ_=>af);simp only[Ng,decide_eq_true_eq,R6]at hc;obtain⟨⟨⟨h1,h2⟩,h3⟩,h4⟩:=hc;have h3:=Va h3;intro r hr;refine⟨_,hr,?_⟩;intro own g w a m u hle hm hd hall hfr hrep;rw[ho]at hrep;simp only[Op.operands,Nr,Oj]at hrep;obtain⟨hx,hy⟩:=M5 hrep;obtain⟨b,cn,hi,e1⟩:=ci hx;obtain⟨b',Vy,arr,tt,k1,k2,k3,k4⟩:=hm.ok id _ (hle _ _ Pn);rw[k1]at hi;cases hi;obtain⟨r1,r2,r3⟩:=m7 hy h2 h4
    have hrun:=key (vs:=(a.eval y).cells.toList) e1 k2 rfl (by rw[r1,h1]) r3 (by rw[r1,k3];exact h3)
    have hseg:=Cm (off:=off) k3 k4 r1 r2;rw[r1]at hseg hrun
    obtain⟨w1,w2⟩:=uN (B':=.box (cs.take off++v.cells++cs.drop (off+v.cells.length))) (arr:=arr.take off++(a.eval y).cells.toList++arr.drop (off+v.cells.length)) hm (hle _ _ Pn) rfl k1 k2 (by intro hh hle';exact⟨b,Vy,_,tt,k1,hh,hseg.1,λk c x p q=>(hseg.2 k c x p q).le hle'⟩)
    intro next Q hn;unfold Oper.wp;rw[hrun];exact hn undef _ g (.c .any) w1 w2 (λid hu _=>hd id hu)
   ·exact af
  ·rename_i id sz i off v;split
   ·rename_i t' l ds fz hrow hds;refine aA (λhc=>?_) (λ_=>af);simp only[Ng,decide_eq_true_eq,beq_iff_eq,R6,UJ]at hc;obtain⟨⟨⟨⟨⟨h1,h2⟩,h3⟩,h4⟩,h5⟩,_⟩:=hc;have h3:=Va h3;subst h2;refine aE λel hel=>?_;dsimp only;split
    ·rename_i nw hnw;intro r hr;refine⟨_,hr,?_⟩;intro own g w a m u hle hm hd hall hfr hrep;have hf:R4 mm fz:=R4.Pq (o6 hds);refine zu (res:={ val:=.c .any,mw:=[(id,some (.row t' (l.set i nw)))] }) hle hf ?_;have hm1:=nK hm hle hf;rw[ho]at hrep;simp only[Op.operands,Nr,Oj]at hrep;obtain⟨hx,hy⟩:=M5 hrep;have hlen:v.cells.length=ds.length:=(ja hds).symm
     have hna:v.cells.all MK.RP=true:=by
      rw[Tg];intro x hx'
      have gen:∀{cs:List (MK F)} {ds:List (ND F)} {ids:List Nat},cS mm cs=some (ds,ids)→x∈cs→x.RP=true:=by
       intro cs
       induction cs with
       | nil=>intro ds ids _ h;simp at h
       | cons y cs ih=>
        intro ds ids h hmem;obtain⟨d,i',ds',j,q1,q2,_,_⟩:=nD h;rcases NH.1 hmem with rfl | hmem
        ·cases x<;>first | rfl | simp[Sl]at q1
        ·exact ih q2 hmem
      exact gen hds hx'
     obtain⟨b,cn,hi,e1⟩:=jz hx
     have akO:Ms m (Ww mm fz) id=some (.row t' l):=by
      rw[lE,if_neg (by intro hid;rw[aN.2 hid]at h5;cases h5)]
      exact hle _ _ hrow
     rcases hm.ok id _ (hle _ _ hrow)with⟨k1,k2⟩ | ⟨b',cap,cur,e,k1,k2,k3,k4,k5,k6⟩
     ·rw[k1]at hi;cases hi
     ·rw[k1]at hi;cases hi
      obtain⟨r1,r2,r3⟩:=m7 hy hna (by omega)
      have hile:i<l.length:=(Lb.1 hel).1;have hcl:(cells F t' l).length=l.length*LV F t':=aG
      have hbig:i*LV F t'+LV F t'≤(cells F t' l).length:=by rw[hcl];have:(i+1)*LV F t'≤l.length*LV F t':=Ro _ hile;rw[TM]at this;omega
      have hcur:(cells F t' l).length≤cur.length:=by rw[hcl,k5];exact Ro _ k3
      have hrun:=key (vs:=(a.eval y).cells.toList) e1 k2 rfl (by rw[r1,hlen,h1]) r3 (by rw[r1,hlen];omega)
      rw[r1,hlen]at hrun
      obtain⟨w1,w2⟩:=uN (g:=g.Rl fz) (B':=.row t' (l.set i nw)) (arr:=cur.take (i*LV F t'+off)++(a.eval y).cells.toList++cur.drop (i*LV F t'+off+ds.length)) hm1 akO rfl k1 k2 (by
       intro hh hle'
       refine .inr ⟨b,cap,_,e,by rw[Yc];exact k1,hh,by simpa using k3,k4,?_,?_⟩
       ·simp only[Lc,Ox,Rn,r1,hlen];omega
       ·intro k d x p q;refine Md.le hle' ?_;rw[tE hel]at p;have hels:(LZ F t' el).length=LV F t':=bC F t' el;have hle2:=p_ g w fz
        have hov:=sj (w:=w) (Lj:=(g.Rl fz).Lj) (cs:=cells F t' l) (ds:=ds) (cur:=cur) (vs:=(a.eval y).cells.toList) (q:=i*LV F t'+off) (by omega) hcur (λk d x p q=>(k6 k d x p q).le hle2) (by rw[r1,hlen])
         (kR hm hle hds hle2 (λid hid b hb=>.inr ⟨id,hid,hb⟩) _ r2)
        rw[r1,hlen]at hov;have TU:=cK F hnw
        have hin:(cells F t' l).take (i*LV F t')++(LZ F t' el).take off=(cells F t' l).take (i*LV F t'+off):=by
         rw[List.take_add]
         congr 1
         apply QeI;intro j;rw[RF,RF];split
         ·rw[Tc]
          have hj:j<(LZ F t' el).length:=by omega
          rw[La hj,a_ hel (La hj)]
         ·rfl
        have hout:(LZ F t' el).drop (off+ds.length)++(cells F t' l).drop (i*LV F t'+LV F t')=(cells F t' l).drop (i*LV F t'+off+ds.length):=by
         apply QeI;intro j;rw[Tc];by_cases hj:off+ds.length+j<LV F t'
         ·rw[Ru (by rw[Rn,hels];omega),Tc]
          have hj2:off+ds.length+j<(LZ F t' el).length:=by omega
          rw[La hj2];have:=a_ hel (La hj2);rw[← this]
          congr 1
          omega
         ·rw[RD (by rw[Rn,hels];omega),Tc,Rn,hels]
          congr 1
          omega
        have ZK:Tt ((cells F t' l).take (i*LV F t'+off)++ds++(cells F t' l).drop (i*LV F t'+off+ds.length)) ((cells F t' l).take (i*LV F t')++LZ F t' nw++(cells F t' l).drop (i*LV F t'+LV F t')):=by
         rw[← hin,← hout]
         have hrefl:∀l:List (ND F),Tt l l:=λl=>⟨rfl,λk c d h1 h2=>by rw[h1]at h2;cases h2;exact .refl _⟩
         have:=oQ (oQ (hrefl ((cells F t' l).take (i*LV F t'))) TU) (hrefl ((cells F t' l).drop (i*LV F t'+LV F t')));simpa[PS]using this
        exact vd ZK hov k d x p q)
      intro next Q hn;unfold Oper.wp;rw[hrun];exact hn undef _ (g.Rl fz) (.c .any) w1 w2 (λid hu _=>hd id hu)
    ·exact af
   ·exact af
  ·rename_i id sz i off sz' j off' v;split
   ·rename_i t' l ds fz hrow hds;refine aA (λhc=>?_) (λ_=>af);simp only[Ng,decide_eq_true_eq,beq_iff_eq,R6,QgD]at hc;obtain⟨⟨⟨h1,rfl⟩,h4⟩,rfl⟩:=hc;refine aE λel hel=>?_;split
    ·rename_i t2 l2 hd;refine aA (λhc=>?_) (λ_=>af);simp only[Ng,beq_iff_eq]at hc;obtain⟨rfl,h3⟩:=hc;have h3:=Va h3;refine aE λel2 afX=>?_;split
     ·rename_i z hz;split
      ·rename_i nw hnw;intro r hr;refine⟨_,hr,?_⟩;intro own g w a m u hle hm hd' hall hfr hrep;rw[ho]at hrep;simp only[Op.operands,Nr,Oj]at hrep;obtain⟨hx,hy⟩:=M5 hrep;have hlen:v.cells.length=ds.length:=(ja hds).symm;obtain⟨b,c',nn,b',c2,hid,hk,e1⟩:=CP hx;obtain⟨pl,k1,k2⟩:=hm.ok id _ (hle _ _ hrow);rw[hid]at k1;cases k1;obtain⟨t2',l2',hd2,hO⟩:=P8.sub k2 hk;have hc0:=a_ hel hd;rw[hc0]at hd2;cases hd2;obtain⟨q0,q2,q3,cur,e,q4,q5,q6⟩:=hO;have hb':b'∈MP nn.2:=kc hk;have hblk:g.blk id b':=⟨b,(c',nn),hid,U_ _ hb'⟩
       obtain⟨r1,r2,r3⟩:=m7 hy (tp hds) (by omega)
       have hjle:j<l2.length:=(Lb.1 afX).1;have hcl:(cells F t2 l2).length=l2.length*LV F t2:=aG
       have hbig:j*LV F t2+LV F t2≤(cells F t2 l2).length:=by rw[hcl];have:(j+1)*LV F t2≤l2.length*LV F t2:=Ro _ hjle;rw[TM]at this;omega
       have hcur:(cells F t2 l2).length≤cur.length:=by rw[hcl,q5];exact Ro _ q2
       have hrun:=key (vs:=(a.eval y).cells.toList) e1 q4 rfl (by rw[r1,hlen,h1]) r3 (by rw[r1,hlen];omega)
       rw[r1,hlen]at hrun
       have hv:=kR hm hle hds (Le.refl g w) (by simp) _ r2
       have hnew:=DZ (w:=w) (Lj:=g.Lj) (vs:=(a.eval y).cells.toList) afX h3 hz hcur q6 (by rw[r1,hlen]) hv
       obtain⟨s1,s2,s3,s4,s5,apU,e0,s6,s7,s8⟩:=k2;have s5':=Un.1 s5;have hbne:b≠b':=λe=>s5'.1 (e▸hb')
       obtain⟨w1,w2⟩:=zV (B':=.Nb t' (l.set i nw)) (arr:=cur.take (j*LV F t2+off')++(a.eval y).cells.toList++cur.drop (j*LV F t2+off'+ds.length)) hm (hle _ _ hrow) rfl hblk q4 (by
        intro hh hle';have hsame:∀b2,b2≠b'→(w.setRow b' ⟨cur.take (j*LV F t2+off')++(a.eval y).cells.toList++cur.drop (j*LV F t2+off'+ds.length)⟩).heap[b2]? = w.heap[b2]?:=λb2 h=>setRow_other w b' b2 _ h
        refine⟨_,hid,by rw[s1,Yc],by simpa using s2,s3,by rw[s4,aG,aG,Yc],s5,apU,e0,by rw[hsame b hbne];exact s6,s7,?_⟩
        intro k d x pl p1 p2 p3;have hkn:k<nn.2.length:=(Lb.1 p3).1;have hold:∀{d0:ND F},(cells F t' l)[k]? = some d0→Oz w g.Lj d0 x pl:=λh0=>s8 k _ x pl h0 p2 p3
        have keep:∀{d0:ND F},k≠i*LV F t'+off→Oz w g.Lj d0 x pl→Oz (w.setRow b' ⟨cur.take (j*LV F t2+off')++(a.eval y).cells.toList++cur.drop (j*LV F t2+off'+ds.length)⟩) g.Lj d0 x pl:=by intro d0 hne h;refine h.Pd (λ_ h=>h) hle'.heap ?_;rintro b2 c3 rfl;refine hsame b2 ?_;rintro rfl;exact hne (xt s5'.2 p3 hk)
        rcases qh hel p1 with⟨jj,rfl,hjj⟩ | ⟨hout,hcell⟩
        ·have hlt:jj<LV F t':=by rw[← bC F t' nw];exact(Lb.1 hjj).1
         have hj0:jj<(LZ F t' el).length:=by rw[bC];exact hlt
         have TU:=(cK F hnw).2 jj _ d (La (by simpa using hj0)) hjj
         by_cases hjo:jj=off
         ·subst hjo;rw[List.getElem_set_self]at TU;cases TU;rw[hk]at p3;cases p3;have h9:=(hold hc0).2
          refine⟨⟨?_,by simpa using q2,q3,_,e,hh,?_,?_⟩,h9⟩
          ·simpa using q0
          ·simp only[Lc,Ox,Rn,r1,hlen];omega
          ·intro k d x p q;exact(hnew k d x p q).le hle'
         ·rw[List.getElem_set_ne (λe=>hjo e.symm)]at TU;have h9:=hold (a_ hel (La hj0));rw[vW TU h9]
          exact keep (by omega) h9
        ·refine keep ?_ (hold hcell)
         have:off<LV F t':=by rw[← bC F t' el];exact(Lb.1 hd).1
         omega)
       intro next Q hn;unfold Oper.wp;rw[hrun];exact hn undef _ g (.c .any) w1 w2 (λid hu _=>hd' id hu)
      ·exact af
     ·exact af
    ·exact af
   ·exact af
  ·exact af
def V8(g:G)(w:World)(t:Ty)(v:Value)(ys:List (ET F t)):Prop:=
 ∃(q:Option Addr)(cap:Nat)(news:List Value),v = .slice q ys.length cap∧news.length=ys.length*LV F t∧(q=none→ys = []∧cap=0)∧(∀b,q=some b→∀(j:Nat)(x:Value),news[j]? = some x→w.cell? (b.add j)=some x)∧
  ∀(k:Nat)(d:ND F)(x:Value),(cells F t ys)[k]? = some d→news[k]? = some x→Md w g.Lj d x
theorem xQ{b q n:Nat}{ds:List (ND F)}(hl:ds.length=n)(h:∀k d,ds[k]? = some d→∃x,w.cell? ⟨b,q+k,none⟩=some x∧Md w g.Lj d x) :
  ∃news:List Value,news.length=n∧(∀(j:Nat)(x:Value),news[j]? = some x→w.cell? ((⟨b,q,none⟩:Addr).add j)=some x)∧∀(k:Nat)(d:ND F)(x:Value),ds[k]? = some d→news[k]? = some x→Md w g.Lj d x:=by
 refine⟨(List.range n).map λk=>(w.cell? ⟨b,q+k,none⟩).getD undef,by simp,?_,?_⟩
 ·intro j x hx
  have hj:j<n:=by have:=(Lb.1 hx).1;simpa using this
  rw[Rf,QgH hj]at hx;simp only[Ya,NI]at hx
  obtain⟨y,hy,_⟩:=h j _ (La (by omega))
  rw[hy]at hx;rw[Addr.add_lit,hy];simpa using hx
 ·intro k d x h1 h2
  have hk:k<n:=by have:=(Lb.1 h1).1;omega
  rw[Rf,QgH hk]at h2;simp only[Ya,NI]at h2;obtain⟨y,hy,hr⟩:=h k d h1;rw[hy]at h2;simp only[Wz]at h2;rw[← h2];exact hr
theorem uQ{t:Ty}(p:Option Addr):V8 (F:=F) g w t (.slice p 0 0) []:=⟨p,0,[],rfl,by simp,λ_=>⟨rfl,rfl⟩,λ_ _ _ _ h=>by simp at h,λ_ _ _ h=>by simp[cells]at h⟩
theorem uD{t:Ty}{l:List (ET F t)}{v:Value}(h:Md w g.Lj (.sl t l) v):V8 g w t v l:=by
 rcases tZ h with⟨rfl,p,rfl⟩ | ⟨b,q,cap,fn,hb,hcap,hmx,rfl,hc,hr⟩
 ·exact uQ p
 ·obtain⟨news,n1,n2,n3⟩:=xQ (g:=g) (w:=w) (b:=b) (q:=q) (ds:=cells F t l) aG (λk d hk=>⟨fn k,hc k d hk,hr k d hk⟩)
  exact⟨_,cap,news,rfl,n1,(λh=>by cases h),(λb' hb'=>by cases hb';exact n2),n3⟩
theorem xg(hm:LQ own g w m)(hle:P7 mm m){tt:Ty}{d:Dat F}{v:Value}{ys:List (ET F tt)}(h:uB mm tt d=some ys)(hr:Me P g w d v):V8 g w tt v ys:=by
 unfold uB at h;split at h
 ·cases h;obtain⟨p,rfl⟩:=p7 hr
  exact uQ p
 ·split at h
  ·rename_i hk;subst hk;cases h;exact uD (tz hr)
  ·cases h
 ·rename_i id;split at h
  ·rename_i t' l hrow;split at h
   ·rename_i hk;subst hk;cases h;rcases bE (bj hr)with⟨hi,p,rfl⟩ | ⟨b,cap,n,hi,h1,h2,rfl⟩
    ·rcases hm.ok id _ (hle _ _ hrow)with⟨_,rfl⟩ | ⟨_,_,_,_,k1,_⟩
     ·exact uQ p
     ·rw[hi]at k1;cases k1
    ·obtain⟨rfl,h4,h7⟩:=dj hm (hle _ _ hrow) hi
     obtain⟨news,n1,n2,n3⟩:=xQ (g:=g) (w:=w) (b:=b) (q:=0) (ds:=cells F t' l) aG (λk d hk=>by rw[OY];exact h7 k d hk)
     exact⟨_,cap,news,rfl,n1,(λh=>by cases h),(λb' hb'=>by cases hb';exact n2),n3⟩
   ·cases h
  ·rename_i t' l hrow;split at h
   ·rename_i hk;subst hk;cases h;exact uD (rz hm (hle _ _ hrow) (bj hr))
   ·cases h
  ·cases h
 ·rename_i id sz off n;split at h
  ·rename_i t' l hrow;split at h
   ·rename_i hk;subst hk;split at h
    ·rename_i hsz;cases h;subst hsz;rcases pG (bj hr)with⟨hi,rfl,rfl,p,rfl⟩ | ⟨b,cap,len,q,hi,h1,h2,h3,h4,rfl⟩
     ·have:Fx.sub l 0 0 = []:=by simp[Fx.sub]
      rw[this];exact uQ p
     ·obtain⟨rfl,h5,h7⟩:=dj hm (hle _ _ hrow) hi
      have hlen:(Fx.sub l off n).length=n:=by simp only[Fx.sub,Ox,Rn];omega
      obtain⟨news,n1,n2,n3⟩:=xQ (g:=g) (w:=w) (b:=b) (q:=q) (ds:=cells F t' (Fx.sub l off n)) aG (λk d hk=>by
       rcases h3 with⟨h3,_⟩ | h3
       ·have h0:n=0:=by omega
        subst h0;simp[Fx.sub,cells]at hk
       ·subst h3;exact h7 _ _ (mi hk))
      exact⟨_,_,news,by rw[hlen],n1,(λh=>by cases h),(λb' hb'=>by cases hb';exact n2),n3⟩
    ·cases h
   ·cases h
  ·rename_i t' l hrow;split at h
   ·rename_i hk;subst hk;split at h
    ·rename_i hsz;cases h;exact uD (Bc hm (hle _ _ hrow) hsz (bj hr))
    ·cases h
   ·cases h
  ·cases h
 ·cases h
end
set_option linter.unusedVariables false
set_option linter.unusedSimpArgs false
section
variable{F:Fam}{P:Program}{T:TypeId→Option (TI F)}{o:Oper}{vals:List (Dat F)}{mm:Nat→Option (Mi F)}{c:Nat}{R:Type}{K:SX F→Option R}{own:Ow}{g g':G}{w w':World}{m m':Nat→Option (Mi F)}{u:Nat→Bool}{a:Act}
theorem t_{α : Type}{b:Nat}{l m r:List α}(h:app b l m=some r):r=l++m∧r.length≤maxLen∧r.length*b≤140737488355328:=by
 unfold app at h;split at h
 ·rename_i hc;cases h;exact⟨rfl,hc.1,hc.2⟩
 ·cases h
theorem mD(t ty e:TypeId)(i:TypeInfo)(ht:P.underlying t=some (.slice e))(hi:P.info? e=some i)(base:Option Addr)(n c:Nat)(hn:n≤c)(q:Option Addr)(c':Nat) :
  (Builtin.append_ #[t,t] ty #[.slice base n c,.slice q 0 c']).run P w = .ok (.slice base n c) w:=by
 cases base<;>cases q<;>simp[Builtin.append_,run_underlying ht,sizeOf,typeInfo,hi,Builtin.lenOf,hn,Builtin.firstCells,storeCells,loadCells,loadCellsFrom]
theorem qN(t ty e e':TypeId)(i:TypeInfo)(ht:P.underlying t=some (.slice e))(hi:P.info? e=some i)
  (b sLen sCap:Nat) (cur:Array Value) (hg:w.heap[b]? = some (.cells cur e' (0,0)))
  (p:Addr) (m c:Nat) (news:List Value) (hl:news.length=m*i.size) (hnews:∀j u,news[j]? = some u→w.cell? (p.add j)=some u) (h1:∀u∈news,u.oneCell'=true)
  (hroom:sLen+m≤sCap) (hfit:sLen*i.size+news.length≤cur.size) :
  (Builtin.append_ #[t,t] ty #[.slice (some ⟨b,0,none⟩) sLen sCap,.slice (some p) m c]).run P w =
   .ok (.slice (some ⟨b,0,none⟩) (sLen+m) sCap) (w.setRow b (cur.toList.take (sLen*i.size)++news++cur.toList.drop (sLen*i.size+news.length)).toArray):=by
 have hf:=run_firstCells_some (P:=P) w i.size m p m c news hl hnews
 have hst:=run_storeCells_at P b (sLen*i.size) e' news 0 cur w hg (by simpa using hfit) h1
 simp only[U9]at hst;simp[Builtin.append_,run_underlying ht,sizeOf,typeInfo,hi,Builtin.lenOf,hroom,hf,Addr.add_lit,hst]
theorem rt{Lj:Nat→Prop}{xs ys:List (ND F)}{cur news rest:List Value}(hc:xs.length≤cur.length)(hx:∀(k:Nat)(d:ND F)(x:Value),xs[k]? = some d→cur[k]? = some x→Md w Lj d x)
  (hn:news.length=ys.length) (hy:∀(k:Nat)(d:ND F)(x:Value),ys[k]? = some d→news[k]? = some x→Md w Lj d x) :
  ∀(k:Nat)(d:ND F)(x:Value),(xs++ys)[k]? = some d→(cur.take xs.length++news++rest)[k]? = some x→Md w Lj d x:=by
 intro k d x h1 h2
 have e:(cur.take xs.length).length=xs.length:=by rw[Ox];omega
 rw[PS]at h2;by_cases hk:k<xs.length
 ·rw[Ru hk]at h1
  rw[Ru (by omega),RF,if_pos hk]at h2
  exact hx k d x h1 h2
 ·rw[RD (by omega)]at h1
  have hk2:k - xs.length<ys.length:=(Lb.1 h1).1
  rw[RD (by omega),e,Ru (by omega)]at h2
  exact hy _ d x h1 h2
theorem lF{t:Ty}{l r:List (ET F t)}:cells F t (l++r)=cells F t l++cells F t r:=by simp[cells]
theorem vA(hT:Mf P T)(hm:LQ own g w m)(hd:∀id,u id=false→g.ids id=none)(hall:∀b,w.heap.size≤b→own.o b)(hfr:u c=false)
  {t e:TypeId} {i te:TI F} (ht:T t=some i) (hde:i.desc = .slice e) (hte:T e=some te) (hz0:0<te.size) {tt:Ty} (hsz:LV F tt=te.size) {x y:Operand}
  (ho:o.op = .call { callee:=.builtin .append,args:=#[x,y],argTypes:=#[t,t] }) {l0 ys r:List (ET F tt)} (hr:app te.bytes l0 ys=some r) (hsrc:V8 g w tt (a.eval y) ys) {rm:List Nat}
  (hdst:(∃p,a.eval x = .slice p 0 0∧l0 = [])∨∃r0 b cap cur e',rm = [r0]∧a.eval x = .slice (some ⟨b,0,none⟩) l0.length cap∧m r0=some (.row tt l0)∧g.ids r0=some (some (b,cap,l0.length,[]))∧w.heap[b]? = some (.cells ⟨cur⟩ e' (0,0))∧l0.length≤cap∧cap≤maxLen∧cur.length=cap*LV F tt∧
   ∀(k:Nat)(d:ND F)(x:Value),(cells F tt l0)[k]? = some d→cur[k]? = some x→Md w g.Lj d x) :
  PZ P own m u g w o a c { val:=.c (.Nl c),mw:=rm.map (λr=>(r,none))++[(c,some (.row tt r))],nu:=1 }:=by
 have hu:=hT.und _ _ ht;rw[hde]at hu;obtain⟨j,hj,hs,hb,z,hz,hzs,hzl,hzr⟩:=hT.info e te hte
 have PU:∀{v:Value}{w':World},(Builtin.append_ #[t,t] o.type #[a.eval x,a.eval y]).run P w = .ok v w'→(execOp a.eval o).run P w = .ok (.value v) w':=by intro v w' hr;simp only[execOp,ho,resolve,invoke,builtin,OB,PL,OO,QgC,Nr,Oj,hr]
 obtain⟨rfl,v3,v4⟩:=t_ hr;have Tz:g.ids c=none:=hd c hfr;have hlen:(l0++ys).length=l0.length+ys.length:=Lc;obtain⟨q,cap',news,hyv,n1,n0,n2,n3⟩:=hsrc;rw[hsz]at n1
 have hcl0:(cells F tt l0).length=l0.length*te.size:=by rw[aG,hsz]
 have afZ:(cells F tt ys).length=ys.length*te.size:=by rw[aG,hsz]
 have fin:∀{v:Value}{w':World}{pl:Pl},(execOp a.eval o).run P w = .ok (.value v) w'→LQ own (g.name c pl) w' (Ms m (rm.map (λr=>(r,none))++[(c,some (.row tt (l0++ys)))]))→
   Stp m g w (g.name c pl) w'→Mj (F:=F) (g.name c pl) w' (.Nl c) v→PZ P own m u g w o a c { val:=.c (.Nl c),mw:=rm.map (λr=>(r,none))++[(c,some (.row tt (l0++ys)))],nu:=1 }:=by
  intro v w' pl hr k1 k2 k3;intro next Q hn;unfold Oper.wp;rw[hr];refine hn v w' (g.name c pl) (.c k3) k1 k2 ?_;intro id hu' hx';have hx':id<c∨c+1≤id:=hx'
  have:id≠c:=by omega
  rw[cF _ _ _ this];exact hd id hu'
 have ak6:∀p,l0++ys = []→(execOp a.eval o).run P w = .ok (.value (.slice p 0 0)) w→PZ P own m u g w o a c { val:=.c (.Nl c),mw:=rm.map (λr=>(r,none))++[(c,some (.row tt (l0++ys)))],nu:=1 }:=by
  intro p h0 hr;obtain⟨k1,k2⟩:=GM (rm:=rm) (id:=c) (t:=tt) hm Tz
  exact fin hr (by rw[h0];exact k1) k2 (.PN p (bD _ _ _))
 have asNew:∀(cap:Nat)(arr:List Value),(l0++ys).length≤cap→cap≤maxLen→arr.length=cap*te.size→(∀(k:Nat)(d:ND F)(x:Value),(cells F tt (l0++ys))[k]? = some d→arr[k]? = some x→Md w g.Lj d x)→
   (execOp a.eval o).run P w = .ok (.value (.slice (some ⟨w.heap.size,0,none⟩) (l0++ys).length cap)) (w.drew.alloc (.cells ⟨arr⟩ e))→PZ P own m u g w o a c { val:=.c (.Nl c),mw:=rm.map (λr=>(r,none))++[(c,some (.row tt (l0++ys)))],nu:=1 }:=by
  intro cap arr h1 h2 h3 h4 hr
  obtain⟨k1,k2⟩:=made (rm:=rm) (id:=c) (cn:=(cap,(l0++ys).length)) (arr:=arr) (t:=e) (B:=.row tt (l0++ys)) hm Tz (hall _ (MO _)) (w1:=w.drew) rfl rfl rfl rfl (QfR _) (by
   intro g' w' hle hi hh
   refine .inr ⟨w.heap.size,cap,arr,e,hi,hh,h1,h2,by rw[h3,hsz],?_⟩
   intro k d x p q;exact(h4 k d x p q).le hle)
  exact fin hr k1 k2 (.Nl (bD _ _ _) h1 h2)
 have hzc:∀k,(Builtin.zeroCells z.cells k).toList.length=k*te.size:=λk=>by rw[WA,size_zeroCells,hzs]
 have acK:∀old,(l0++ys).length≤grownCap w (l0++ys).length old e∧grownCap w (l0++ys).length old e≤maxLen:=λold=>⟨grownCap_ge w _ _ _,grownCap_le_maxLen w _ _ _ v3⟩
 have h63:((l0++ys).length:Int)≤9223372036854775807:=by have h:=v3;simp only[maxLen]at h;omega
 rcases hdst with⟨p,hxv,rfl⟩ | ⟨r0,b,cap,cur,e',rfl,hxv,hB0,hi,hbk,hle,hmx,hcl,hcr⟩
 ·simp only[PX]at *;by_cases h0:ys = []
  ·subst h0
   exact ak6 p rfl (PU (by rw[hxv,hyv];exact mD t o.type e j hu hj p 0 0 (MO _) q cap'))
  ·have hpos:0<ys.length:=QgK.2 h0
   cases q with
   | none=>exact absurd (n0 rfl).1 h0
   | some b'=>
    have n2':=n2 b' rfl
    have grown:∀{v:Value}{w':World},(Builtin.append_ #[t,t] o.type #[a.eval x,a.eval y]).run P w = .ok v w'→v = .slice (some ⟨w.heap.size,0,none⟩) ys.length (grownCap w ys.length 0 e)→
      w'=w.drew.alloc (.cells (⟨news++(Builtin.zeroCells z.cells (grownCap w ys.length 0 e - ys.length)).toList⟩:Array Value) e)→PZ P own m u g w o a c { val:=.c (.Nl c),mw:=rm.map (λr=>(r,none))++[(c,some (.row tt ys))],nu:=1 }:=by
     intro v w' hr hv hw;subst hv hw;obtain⟨g1,g2⟩:=acK 0;refine asNew (grownCap w ys.length 0 e) (news++(Builtin.zeroCells z.cells (grownCap w ys.length 0 e - ys.length)).toList) g1 g2 ?_ ?_ (PU hr)
     ·rw[Lc,n1,hzc,← Um]
      congr 1
      omega
     ·intro k d x p q;have hk:k<(cells F tt ys).length:=(Lb.1 p).1
      rw[Ru (by omega)]at q
      exact n3 k d x p q
    cases p with
    | none=>
     have hr:=run_append_nil (P:=P) w t o.type e j z hu hj hz b' ys.length cap' news (by rw[n1,hs]) n2' hpos h63 (by rw[hb];omega)
     refine grown (by rw[hxv,hyv];exact hr) rfl ?_
     congr 2
     apply Array.ext';simp
    | some b0=>
     have hr:=run_append_grow (P:=P) w t o.type e j z hu hj hz b0 0 0 [] (by simp) (by simp) b' ys.length cap' news (by rw[n1,hs]) n2' (by omega) (by simpa using h63)
      (growslice_fits (by omega) (by rw[hb,OY];exact v4))
     simp only[OY]at hr
     refine grown (by rw[hxv,hyv];exact hr) rfl ?_
     congr 2
     apply Array.ext';simp
 ·rw[hsz]at hcl
  have htake:cur.take (cells F tt l0).length=cur.take (l0.length*te.size):=by rw[hcl0]
  have acw:(cells F tt l0).length≤cur.length:=by rw[hcl0,hcl];exact Ro _ hle
  by_cases h0:ys = []
  ·subst h0;simp only[Wo]at *
   have hr:=PU (by rw[hxv,hyv];exact mD t o.type e j hu hj (some ⟨b,0,none⟩) l0.length cap hle q cap')
   obtain⟨k1,k2⟩:=moved (rm:=r0) (id:=c) (Vy:=(cap,l0.length)) (w':=w) (B:=.row tt l0) hm Tz hB0 rfl hi rfl rfl rfl (MO _) rfl (λ_ _=>rfl) (by
    intro g' hle' hi'
    refine .inr ⟨b,cap,cur,e',hi',hbk,hle,hmx,by rw[hcl,hsz],?_⟩
    intro k d x p q;exact(hcr k d x p q).le hle')
   exact fin hr k1 k2 (.Nl (bD _ _ _) hle hmx)
  ·have hpos:0<ys.length:=QgK.2 h0
   cases q with
   | none=>exact absurd (n0 rfl).1 h0
   | some b'=>
    have n2':=n2 b' rfl;by_cases hroom:l0.length+ys.length≤cap
    ·have hfit:l0.length*j.size+news.length≤(⟨cur⟩:Array Value).size:=by
      rw[hs,n1,← Um];show _≤cur.length;rw[hcl];exact Ro _ hroom
     have h1:∀u∈news,u.oneCell'=true:=by
      intro x hx;obtain⟨k,hk⟩:=Ye hx
      have hlt:k<(cells F tt ys).length:=by have:=(Lb.1 hk).1;omega
      exact(n3 k _ x (La hlt) hk).oneCell
     have hr:=qN (P:=P) (w:=w) t o.type e e' j hu hj b l0.length cap ⟨cur⟩ hbk b' ys.length cap' news (by rw[n1,hs]) n2' h1 hroom hfit
     rw[hs]at hr
     have hr':=PU (by rw[hxv,hyv];exact hr)
     obtain⟨k1,k2⟩:=moved (rm:=r0) (id:=c) (Vy:=(cap,(l0++ys).length)) (w':=w.setRow b (cur.take (l0.length*te.size)++news++cur.drop (l0.length*te.size+news.length)).toArray) (B:=.row tt (l0++ys)) hm Tz hB0 rfl hi rfl rfl rfl (MO _) (by simp) (λb'' hne=>setRow_other w b b'' _ hne) (by
      intro g' hle' hi'
      refine .inr ⟨b,cap,cur.take (l0.length*te.size)++news++cur.drop (l0.length*te.size+news.length),e',hi',setRow_heap w b _ _ e' _ hbk,by omega,hmx,?_,?_⟩
      ·simp only[Lc,Ox,Rn,n1];rw[hs,n1,← Um]at hfit;have akW:(l0.length+ys.length)*te.size≤cur.length:=hfit;rw[Um]at akW;rw[hsz,← hcl];omega
      ·intro k d x p q;rw[lF]at p;rw[← htake]at q
       exact(rt acw hcr (by rw[n1,afZ]) n3 k d x p q).le hle')
     rw[← hlen]at hr'
     exact fin hr' k1 k2 (.Nl (bD _ _ _) (by omega) hmx)
    ·have holds:∀(k:Nat)(v:Value),(cur.take (l0.length*te.size))[k]? = some v→w.cell? ((⟨b,0,none⟩:Addr).add k)=some v:=by
      intro k v hk;rw[RF]at hk;split at hk
      ·rw[Addr.add_lit,OY];simp only[World.cell?,hbk];simpa using hk
      ·cases hk
     have hlo:(cur.take (l0.length*te.size)).length=l0.length*j.size:=by rw[Ox,hs];omega
     have hr:=run_append_grow (P:=P) w t o.type e j z hu hj hz ⟨b,0,none⟩ l0.length cap (cur.take (l0.length*te.size)) hlo holds b' ys.length cap' news (by rw[n1,hs]) n2' (by omega) (by rw[← hlen];exact h63)
      (growslice_fits (by omega) (by rw[hb,← hlen];exact v4))
     rw[← hlen]at hr;obtain⟨g1,g2⟩:=acK cap
     have harr:((cur.take (l0.length*te.size)).toArray++news.toArray++Builtin.zeroCells z.cells (grownCap w (l0++ys).length cap e - (l0++ys).length)) =
       (⟨cur.take (l0.length*te.size)++news++(Builtin.zeroCells z.cells (grownCap w (l0++ys).length cap e - (l0++ys).length)).toList⟩:Array Value):=by
      apply Array.ext';simp
     rw[harr]at hr
     refine asNew (grownCap w (l0++ys).length cap e) (cur.take (l0.length*te.size)++news++(Builtin.zeroCells z.cells (grownCap w (l0++ys).length cap e - (l0++ys).length)).toList) g1 g2 ?_ ?_ (PU (by rw[hxv,hyv];exact hr))
     ·rw[Lc,Lc,hlo,n1,hzc,hs,← Um,← hlen,← Um]
      congr 1
      omega
     ·intro k d x p q;rw[lF]at p;rw[← htake]at q
      exact rt acw hcr (by rw[n1,afZ]) n3 k d x p q
theorem De(hT:Mf P T){t e:TypeId}{i te:TI F}(ht:T t=some i)(hde:i.desc = .slice e)(hte:T e=some te)(hz0:0<te.size){x y:Value}{ty:TypeId}{n k:Nat}{cur news:List Value}
  (hx:((∃p,x = .slice p 0 0)∧n=0∧cur = [])∨∃b e' cap,x = .slice (some ⟨b,0,none⟩) n cap∧w.heap[b]? = some (.cells ⟨cur⟩ e' (0,0))∧n≤cap∧cap≤maxLen∧cur.length=cap*te.size)
  (hy:((∃p cap,y = .slice p 0 cap)∧k=0∧news = [])∨∃b' cap',y = .slice (some b') k cap'∧0<k∧news.length=k*te.size∧(∀(j:Nat)(u:Value),news[j]? = some u→w.cell? (b'.add j)=some u)∧∀u∈news,u.oneCell'=true)
  (hlen:n+k≤maxLen) (hby:(n+k)*te.bytes≤140737488355328) :
  ∃v w',(Builtin.append_ #[t,t] ty #[x,y]).run P w = .ok v w'∧w'.os=w.os∧w'.tape=w.tape∧w'.output=w.output∧w.drawn≤w'.drawn∧
   ((n+k=0∧(∃p,v = .slice p 0 0)∧(∃p,x = .slice p 0 0)∧w'=w)∨
    (∃b e' cap arr,x = .slice (some ⟨b,0,none⟩) n cap∧v = .slice (some ⟨b,0,none⟩) (n+k) cap∧w'.heap[b]? = some (.cells ⟨arr⟩ e' (0,0))∧(∀b2,b2≠b→w'.heap[b2]? = w.heap[b2]?)∧w'.heap.size=w.heap.size∧n+k≤cap∧cap≤maxLen∧arr.length=cap*te.size∧
     arr.take ((n+k)*te.size)=cur.take (n*te.size)++news∧(k=0→w'=w))∨
    (∃e' cap arr,v = .slice (some ⟨w.heap.size,0,none⟩) (n+k) cap∧w'.heap[w.heap.size]? = some (.cells ⟨arr⟩ e' (0,0))∧(∀b2,b2<w.heap.size→w'.heap[b2]? = w.heap[b2]?)∧w'.heap.size=w.heap.size+1∧n+k≤cap∧cap≤maxLen∧arr.length=cap*te.size∧
     arr.take ((n+k)*te.size)=cur.take (n*te.size)++news)):=by
 have hu:=hT.und _ _ ht;rw[hde]at hu;obtain⟨j,hj,hs,hb,z,hz,hzs,hzl,hzr⟩:=hT.info e te hte
 have hzc:∀k,(Builtin.zeroCells z.cells k).toList.length=k*te.size:=λk=>by rw[WA,size_zeroCells,hzs]
 have h63:((n+k:Nat):Int)≤9223372036854775807:=by have h:=hlen;simp only[maxLen]at h;omega
 have asNew:∀{v:Value}{cap:Nat}{arr:List Value},(Builtin.append_ #[t,t] ty #[x,y]).run P w = .ok v (w.drew.alloc (.cells ⟨arr⟩ e))→v = .slice (some ⟨w.heap.size,0,none⟩) (n+k) cap→n+k≤cap→cap≤maxLen→arr.length=cap*te.size→arr.take ((n+k)*te.size)=cur.take (n*te.size)++news→
   ∃v w',(Builtin.append_ #[t,t] ty #[x,y]).run P w = .ok v w'∧w'.os=w.os∧w'.tape=w.tape∧w'.output=w.output∧w.drawn≤w'.drawn∧
   ((n+k=0∧(∃p,v = .slice p 0 0)∧(∃p,x = .slice p 0 0)∧w'=w)∨
    (∃b e' cap arr,x = .slice (some ⟨b,0,none⟩) n cap∧v = .slice (some ⟨b,0,none⟩) (n+k) cap∧w'.heap[b]? = some (.cells ⟨arr⟩ e' (0,0))∧(∀b2,b2≠b→w'.heap[b2]? = w.heap[b2]?)∧w'.heap.size=w.heap.size∧n+k≤cap∧cap≤maxLen∧arr.length=cap*te.size∧
     arr.take ((n+k)*te.size)=cur.take (n*te.size)++news∧(k=0→w'=w))∨
    (∃e' cap arr,v = .slice (some ⟨w.heap.size,0,none⟩) (n+k) cap∧w'.heap[w.heap.size]? = some (.cells ⟨arr⟩ e' (0,0))∧(∀b2,b2<w.heap.size→w'.heap[b2]? = w.heap[b2]?)∧w'.heap.size=w.heap.size+1∧n+k≤cap∧cap≤maxLen∧arr.length=cap*te.size∧
     arr.take ((n+k)*te.size)=cur.take (n*te.size)++news)):=by
  intro v cap arr h0 h1 h2 h3 h4 h5;refine⟨v,_,h0,rfl,rfl,rfl,QfR _,.inr (.inr ⟨e,cap,arr,h1,?_,?_,?_,h2,h3,h4,h5⟩)⟩
  ·exact heap_alloc_new w.drew (.cells ⟨arr⟩ e)
  ·intro b2 hb2;exact heap_alloc_old w.drew (.cells ⟨arr⟩ e) b2 hb2
  ·rw[World.size_alloc];rfl
 rcases hy with⟨⟨q,cap',rfl⟩,rfl,rfl⟩ | ⟨b',cap',rfl,hpos,n1,n2,h1⟩
 ·rcases hx with⟨⟨p,rfl⟩,rfl,rfl⟩ | ⟨b,e',cap,rfl,hbk,hle,hmx,hcl⟩
  ·exact⟨_,w,mD t ty e j hu hj p 0 0 (MO _) q cap',rfl,rfl,rfl,MO _,.inl ⟨rfl,⟨p,rfl⟩,⟨p,rfl⟩,rfl⟩⟩
  ·refine⟨_,w,mD t ty e j hu hj (some ⟨b,0,none⟩) n cap hle q cap',rfl,rfl,rfl,MO _,.inr (.inl ⟨b,e',cap,cur,rfl,rfl,hbk,λ_ _=>rfl,rfl,hle,hmx,hcl,by simp,λ_=>rfl⟩)⟩
 ·rcases hx with⟨⟨p,rfl⟩,rfl,rfl⟩ | ⟨b,e',cap,rfl,hbk,hle,hmx,hcl⟩
  ·simp only[OY,Nat.zero_mul,List.take_zero,PX]at *;have g1:=grownCap_ge w k 0 e;have g2:=grownCap_le_maxLen w k 0 e hlen
   have hA:(news++(Builtin.zeroCells z.cells (grownCap w k 0 e - k)).toList).length=grownCap w k 0 e*te.size:=by
    rw[Lc,n1,hzc,← Um]
    congr 1
    omega
   have hB:(news++(Builtin.zeroCells z.cells (grownCap w k 0 e - k)).toList).take (k*te.size)=news:=by rw[← n1,List.take_left'];rfl
   cases p with
   | none=>
    have hr:=run_append_nil (P:=P) w t ty e j z hu hj hz b' k cap' news (by rw[n1,hs]) n2 hpos h63 (by rw[hb];omega)
    have harr:(news.toArray++Builtin.zeroCells z.cells (grownCap w k 0 e - k))=(⟨news++(Builtin.zeroCells z.cells (grownCap w k 0 e - k)).toList⟩:Array Value):=by apply Array.ext';simp
    rw[harr]at hr;exact asNew hr rfl g1 g2 hA hB
   | some b0=>
    have hr:=run_append_grow (P:=P) w t ty e j z hu hj hz b0 0 0 [] (by simp) (by simp) b' k cap' news (by rw[n1,hs]) n2 (by omega) (by simpa using h63)
     (growslice_fits (by omega) (by rw[hb,OY];exact hby))
    simp only[OY]at hr
    have harr:(([]:List Value).toArray++news.toArray++Builtin.zeroCells z.cells (grownCap w k 0 e - k))=(⟨news++(Builtin.zeroCells z.cells (grownCap w k 0 e - k)).toList⟩:Array Value):=by apply Array.ext';simp
    rw[harr]at hr;exact asNew hr rfl g1 g2 hA hB
  ·have hlo:(cur.take (n*te.size)).length=n*te.size:=by
    rw[Ox,hcl];exact QfO (Ro _ hle)
   by_cases hroom:n+k≤cap
   ·have hfit:n*j.size+news.length≤(⟨cur⟩:Array Value).size:=by
     rw[hs,n1,← Um];show _≤cur.length;rw[hcl];exact Ro _ hroom
    have hr:=qN (P:=P) (w:=w) t ty e e' j hu hj b n cap ⟨cur⟩ hbk b' k cap' news (by rw[n1,hs]) n2 h1 hroom hfit
    rw[hs]at hr
    refine⟨_,_,hr,rfl,rfl,rfl,MO _,.inr (.inl ⟨b,e',cap,cur.take (n*te.size)++news++cur.drop (n*te.size+news.length),rfl,rfl,setRow_heap w b _ _ e' _ hbk,λb2 hne=>setRow_other w b b2 _ hne,by simp,hroom,hmx,?_,?_⟩)⟩
    ·rw[hs]at hfit;have hfit:n*te.size+news.length≤cur.length:=hfit;simp only[Lc,Rn,hlo];omega
    ·refine⟨?_,λh=>by omega⟩
     rw[List.take_left'];rw[Lc,hlo,n1,← Um]
   ·have holds:∀(k:Nat)(v:Value),(cur.take (n*te.size))[k]? = some v→w.cell? ((⟨b,0,none⟩:Addr).add k)=some v:=by
     intro k v hk;rw[RF]at hk;split at hk
     ·rw[Addr.add_lit,OY];simp only[World.cell?,hbk];simpa using hk
     ·cases hk
    have hr:=run_append_grow (P:=P) w t ty e j z hu hj hz ⟨b,0,none⟩ n cap (cur.take (n*te.size)) (by rw[hlo,hs]) holds b' k cap' news (by rw[n1,hs]) n2 (by omega) h63
     (growslice_fits (by omega) (by rw[hb];exact hby))
    have g1:=grownCap_ge w (n+k) cap e;have g2:=grownCap_le_maxLen w (n+k) cap e hlen
    have harr:((cur.take (n*te.size)).toArray++news.toArray++Builtin.zeroCells z.cells (grownCap w (n+k) cap e - (n+k))) =
      (⟨cur.take (n*te.size)++news++(Builtin.zeroCells z.cells (grownCap w (n+k) cap e - (n+k))).toList⟩:Array Value):=by
     apply Array.ext';simp
    rw[harr]at hr;refine asNew hr rfl g1 g2 ?_ ?_
    ·rw[Lc,Lc,hlo,n1,hzc,← Um,← Um]
     congr 1
     omega
    ·rw[List.take_left'];rw[Lc,hlo,n1,← Um]
theorem iQ:∀{a b:NS},MP (a++b)=MP a++MP b
 | [],b=>rfl
 | none::a,b=>iQ (a:=a)
 | some q::a,b=>by obtain⟨x,y⟩:=q;simp only[UH,MP,iQ (a:=a)]
theorem wy{Lj:Nat→Prop}{t:Ty}{l:List (ET F t)}{b cap:Nat}{n:Nat×NS}(h:P8 w Lj t l (some (b,cap,n))) :
  ∃cur e,w.heap[b]? = some (.cells ⟨cur⟩ e (0,0))∧cur.length=cap*LV F t∧n.1=l.length∧l.length≤cap∧cap≤maxLen∧n.2.length=l.length*LV F t∧(b::MP n.2).Nodup∧
   (∀(k:Nat)(d:ND F)(x:Value)(pl:Option (Nat×Nat×Nat)),(cells F t l)[k]? = some d→cur[k]? = some x→n.2[k]? = some pl→Oz w Lj d x pl)∧∀u∈cur.take (l.length*LV F t),u.oneCell'=true:=by
 obtain⟨s1,s2,s3,s4,s5,cur,e,s6,s7,s8⟩:=h;rw[aG]at s4;refine⟨cur,e,s6,s7,s1,s2,s3,s4,s5,s8,?_⟩;intro u hu;obtain⟨k,hk⟩:=Ye hu;rw[RF]at hk;split at hk
 ·rename_i hlt
  have:=s8 k _ u _ (La (by rw[aG];exact hlt)) hk (La (by omega))
  revert this
  generalize(cells F t l)[k]'(by rw[aG];exact hlt)=d
  generalize n.2[k]'(by omega)=pl
  intro h
  cases d with
  | sl t' l'=>
   cases pl with
   | none=>obtain⟨p,rfl⟩:=h.2;rfl
   | some q=>obtain⟨b1,c1,n1⟩:=q;have h2:u = .slice (some ⟨b1,0,none⟩) n1 c1:=h.2;subst h2;rfl
  | _=>exact h.2.2.oneCell
 ·cases hk
theorem vt{Lj LU:Nat→Prop}{w':World}(hi:∀b,Lj b→LU b)(hw:∀b,Lj b→w'.heap[b]? = w.heap[b]?){t:Ty}{l ys:List (ET F t)}{ns Vw:NS}{cur Yq arr:List Value}{b cap:Nat}{e:TypeId}
  (hcur:l.length*LV F t≤cur.length) (hcur2:ys.length*LV F t≤Yq.length) (hn1:ns.length=l.length*LV F t) (hn2:Vw.length=ys.length*LV F t)
  (h1:∀(k:Nat)(d:ND F)(x:Value)(pl:Option (Nat×Nat×Nat)),(cells F t l)[k]? = some d→cur[k]? = some x→ns[k]? = some pl→Oz w Lj d x pl)
  (h2:∀(k:Nat)(d:ND F)(x:Value)(pl:Option (Nat×Nat×Nat)),(cells F t ys)[k]? = some d→Yq[k]? = some x→Vw[k]? = some pl→Oz w Lj d x pl)
  (hh:w'.heap[b]? = some (.cells ⟨arr⟩ e (0,0))) (hlen:(l++ys).length≤cap) (hmx:cap≤maxLen) (harr:arr.length=cap*LV F t) (htake:arr.take ((l.length+ys.length)*LV F t)=cur.take (l.length*LV F t)++Yq.take (ys.length*LV F t))
  (hnd:(b::(MP ns++MP Vw)).Nodup) (hold:∀b2∈MP ns++MP Vw,w'.heap[b2]? = w.heap[b2]?):P8 w' LU t (l++ys) (some (b,cap,(l++ys).length,ns++Vw)):=by
 have hc1:(cells F t l).length=l.length*LV F t:=aG;have hc2:(cells F t ys).length=ys.length*LV F t:=aG
 refine⟨rfl,hlen,hmx,?_,by rw[iQ];exact hnd,arr,e,hh,harr,?_⟩
 ·rw[aG,Lc,Lc,hn1,hn2,Um]
 ·intro k d x pl p1 p2 p3;rw[lF]at p1
  have hk:k<(l.length+ys.length)*LV F t:=by have:=(Lb.1 p1).1;rw[Lc,hc1,hc2,← Um]at this;exact this
  have p2':(arr.take ((l.length+ys.length)*LV F t))[k]? = some x:=by rw[RF,if_pos hk];exact p2
  rw[htake]at p2'
  have e1:(cur.take (l.length*LV F t)).length=l.length*LV F t:=by rw[Ox];omega
  have fin:∀{d:ND F}{pl:Option (Nat×Nat×Nat)},(∀b c,pl=some (b,c)→b∈MP ns++MP Vw)→Oz w Lj d x pl→Oz w' LU d x pl:=λhm h=>h.Pd hi hw (λb c e=>hold b (hm b c e));by_cases hk1:k<l.length*LV F t
  ·rw[Ru (by omega)]at p1
   rw[Ru (by omega),RF,if_pos hk1]at p2'
   rw[Ru (by omega)]at p3
   refine fin ?_ (h1 k d x pl p1 p2' p3);rintro b c rfl;exact QcW _ (kc p3)
  ·rw[RD (by omega),hc1]at p1
   rw[RD (by omega),e1,RF]at p2'
   rw[RD (by omega),hn1]at p3
   split at p2'
   ·refine fin ?_ (h2 _ d x pl p1 p2' p3);rintro b c rfl;exact QcS _ (kc p3)
   ·cases p2'
theorem tY(hT:Mf P T)(hm:LQ own g w m)(hd:∀id,u id=false→g.ids id=none)(hall:∀b,w.heap.size≤b→own.o b)(hfr:u c=false)
  {t e:TypeId} {i te:TI F} (ht:T t=some i) (hde:i.desc = .slice e) (hte:T e=some te) (hz0:0<te.size) {tt:Ty} (hsz:LV F tt=te.size) {x y:Operand}
  (ho:o.op = .call { callee:=.builtin .append,args:=#[x,y],argTypes:=#[t,t] }) {l0 ys r:List (ET F tt)} (hr:app te.bytes l0 ys=some r) {rm:List Nat} {plx ply:Pl}
  (hx:P8 w g.Lj tt l0 plx) (hy:P8 w g.Lj tt ys ply) (hxv:Oo plx (a.eval x)) (hyv:Oo ply (a.eval y))
  (hbx:∀b0 c,plx=some (b0,c)→∀b∈b0::MP c.2.2,∃r∈rm,∃B0,m r=some B0∧B0.owned=true∧g.blk r b) (hby:∀b0 c,ply=some (b0,c)→∀b∈b0::MP c.2.2,∃r∈rm,∃B0,m r=some B0∧B0.owned=true∧g.blk r b)
  (hdj:∀b0 c b1 c1,plx=some (b0,c)→ply=some (b1,c1)→∀b∈b0::MP c.2.2,b∉b1::MP c1.2.2) :
  PZ P own m u g w o a c { val:=.c (.Nl c),mw:=rm.map (λr=>(r,none))++[(c,some (.Nb tt r))],nu:=1 }:=by
 have PU:∀{v:Value}{w':World},(Builtin.append_ #[t,t] o.type #[a.eval x,a.eval y]).run P w = .ok v w'→(execOp a.eval o).run P w = .ok (.value v) w':=by intro v w' hr;simp only[execOp,ho,resolve,invoke,builtin,OB,PL,OO,QgC,Nr,Oj,hr]
 obtain⟨rfl,v3,v4⟩:=t_ hr;have Tz:g.ids c=none:=hd c hfr;have hlen:(l0++ys).length=l0.length+ys.length:=Lc
 have fin:∀{v:Value}{w':World}{pl:Pl},(execOp a.eval o).run P w = .ok (.value v) w'→LQ own (g.name c pl) w' (Ms m (rm.map (λr=>(r,none))++[(c,some (.Nb tt (l0++ys)))]))∧
   Stp m g w (g.name c pl) w'→Mj (F:=F) (g.name c pl) w' (.Nl c) v→PZ P own m u g w o a c { val:=.c (.Nl c),mw:=rm.map (λr=>(r,none))++[(c,some (.Nb tt (l0++ys)))],nu:=1 }:=by
  intro v w' pl hr k k3;intro next Q hn;unfold Oper.wp;rw[hr];refine hn v w' (g.name c pl) (.c k3) k.1 k.2 ?_;intro id hu' hx';have hx':id<c∨c+1≤id:=hx'
  have:id≠c:=by omega
  rw[cF _ _ _ this];exact hd id hu'
 have low:∀{b:Nat},(∃r∈rm,∃B0,m r=some B0∧B0.owned=true∧g.blk r b)→b<w.heap.size:=by rintro b ⟨r,_,B0,h1,h2,h3⟩;exact(hm.ok r B0 h1).place hm.Lj (Mi.PV h2) h3
 have hX:∃(ns:NS)(cur:List Value),ns.length=l0.length*te.size∧l0.length*te.size≤cur.length∧(MP ns).Nodup∧(∀(k:Nat)(d:ND F)(x:Value)(pl:Option (Nat×Nat×Nat)),(cells F tt l0)[k]? = some d→cur[k]? = some x→ns[k]? = some pl→Oz w g.Lj d x pl)∧
   (∀b∈MP ns,∃b0 c,plx=some (b0,c)∧b∈MP c.2.2∧b≠b0)∧
   (((∃p,a.eval x = .slice p 0 0)∧l0.length=0∧cur = [])∨∃b e' cap,a.eval x = .slice (some ⟨b,0,none⟩) l0.length cap∧w.heap[b]? = some (.cells ⟨cur⟩ e' (0,0))∧l0.length≤cap∧cap≤maxLen∧cur.length=cap*te.size∧∃c,plx=some (b,c)∧b∉MP ns):=by
  cases plx with
  | none=>
   have hx:l0 = []:=hx;subst hx
   exact⟨[],[],by simp,by simp,QeB,λk d x pl h=>by simp[cells]at h,λb hb=>by simp[MP]at hb,.inl ⟨hxv,rfl,rfl⟩⟩
  | some q=>
   obtain⟨b,cap,n⟩:=q;obtain⟨cur,e',s1,s2,s3,s4,s5,s6,s7,s8,s9⟩:=wy hx;have s7':=Un.1 s7;have hxv:a.eval x = .slice (some ⟨b,0,none⟩) n.1 cap:=hxv;rw[hsz]at s2 s6
   refine⟨n.2,cur,s6,by rw[s2];exact Ro _ s4,s7'.2,s8,λb1 hb=>⟨b,_,rfl,hb,λe=>s7'.1 (e▸hb)⟩,.inr ⟨b,e',cap,by rw[hxv,s3],s1,s4,s5,s2,_,rfl,s7'.1⟩⟩
 have hY:∃(ns:NS)(cur:List Value),ns.length=ys.length*te.size∧ys.length*te.size≤cur.length∧(MP ns).Nodup∧(∀(k:Nat)(d:ND F)(x:Value)(pl:Option (Nat×Nat×Nat)),(cells F tt ys)[k]? = some d→cur[k]? = some x→ns[k]? = some pl→Oz w g.Lj d x pl)∧
   (∀b∈MP ns,∃b0 c,ply=some (b0,c)∧b∈MP c.2.2)∧
   (((∃p cap,a.eval y = .slice p 0 cap)∧ys.length=0∧cur.take (ys.length*te.size) = [])∨∃b' cap',a.eval y = .slice (some b') ys.length cap'∧0<ys.length∧(cur.take (ys.length*te.size)).length=ys.length*te.size∧(∀(j:Nat)(u:Value),(cur.take (ys.length*te.size))[j]? = some u→w.cell? (b'.add j)=some u)∧∀u∈cur.take (ys.length*te.size),u.oneCell'=true):=by
  cases ply with
  | none=>
   have hy:ys = []:=hy;subst hy;obtain⟨p,hyv⟩:=hyv
   exact⟨[],[],by simp,by simp,QeB,λk d x pl h=>by simp[cells]at h,λb hb=>by simp[MP]at hb,.inl ⟨⟨p,0,hyv⟩,rfl,by simp⟩⟩
  | some q=>
   obtain⟨b,cap,n⟩:=q;obtain⟨cur,e',s1,s2,s3,s4,s5,s6,s7,s8,s9⟩:=wy hy;have s7':=Un.1 s7;have hyv:a.eval y = .slice (some ⟨b,0,none⟩) n.1 cap:=hyv;rw[hsz]at s2 s6 s9
   have hle:ys.length*te.size≤cur.length:=by rw[s2];exact Ro _ s4
   refine⟨n.2,cur,s6,hle,s7'.2,s8,λb1 hb=>⟨b,_,rfl,hb⟩,?_⟩;by_cases h0:ys.length=0
   ·exact .inl ⟨⟨_,cap,by rw[hyv,s3,h0]⟩,h0,by rw[h0];simp⟩
   ·refine .inr ⟨_,cap,by rw[hyv,s3],by omega,by rw[Ox];omega,?_,s9⟩
    intro j u hj;rw[RF]at hj;split at hj
    ·rw[Addr.add_lit,OY];simp only[World.cell?,s1];simpa using hj
    ·cases hj
 obtain⟨ns,cur,x1,x2,x3,x4,x5,x6⟩:=hX;obtain⟨Vw,Yq,y1,y2,y3,y4,y5,y6⟩:=hY
 have inX:∀b∈MP ns,∃r∈rm,∃B0,m r=some B0∧B0.owned=true∧g.blk r b:=by intro b hb;obtain⟨b0,c,e1,e2,_⟩:=x5 b hb;exact hbx b0 c e1 b (U_ _ e2)
 have inY:∀b∈MP Vw,∃r∈rm,∃B0,m r=some B0∧B0.owned=true∧g.blk r b:=by intro b hb;obtain⟨b0,c,e1,e2⟩:=y5 b hb;exact hby b0 c e1 b (U_ _ e2)
 have hXY:(MP ns++MP Vw).Nodup:=by refine Xd.2 ⟨x3,y3,?_⟩;rintro b hb b1 hb1 rfl;obtain⟨b0,c,e1,e2,_⟩:=x5 b hb;obtain⟨b1,c1,f1,f2⟩:=y5 b hb1;exact hdj _ _ _ _ e1 f1 b (U_ _ e2) (U_ _ f2)
 have aaI:∀b∈MP ns++MP Vw,∃r∈rm,∃B0,m r=some B0∧B0.owned=true∧g.blk r b:=by
  intro b hb;rcases N_.1 hb with hb | hb
  ·exact inX b hb
  ·exact inY b hb
 have hx0:((∃p,a.eval x = .slice p 0 0)∧l0.length=0∧cur = [])∨∃b e' cap,a.eval x = .slice (some ⟨b,0,none⟩) l0.length cap∧w.heap[b]? = some (.cells ⟨cur⟩ e' (0,0))∧l0.length≤cap∧cap≤maxLen∧cur.length=cap*te.size:=by
  rcases x6 with h | ⟨b,e',cap,h1,h2,h3,h4,h5,_⟩
  ·exact .inl h
  ·exact .inr ⟨b,e',cap,h1,h2,h3,h4,h5⟩
 obtain⟨v,w',hrun,o1,o2,o3,o4,hcase⟩:=De (P:=P) (w:=w) (ty:=o.type) hT ht hde hte hz0 hx0 y6 (by rw[← hlen];exact v3) (by rw[← hlen];exact v4)
 have hrun':=PU hrun;rw[← hsz]at *;rcases hcase with⟨h0,⟨p,rfl⟩,_,rfl⟩ | ⟨b,e',cap,arr,hxe,rfl,h1,h2,h3,h4,h5,h6,h7,h8⟩ | ⟨e',cap,arr,rfl,h1,h2,h3,h4,h5,h6,h7⟩
 ·have hnil:l0++ys = []:=TQ (by omega)
  refine fin (pl:=none) hrun' (lN hm Tz (λ_ _ h=>by cases h) rfl rfl rfl (MO _) (MO _) (λ_ _ _=>rfl) (λg' _ hi=>⟨none,hi,hnil⟩)) (.PN p (bD _ _ _))
 ·rcases x6 with⟨⟨p,hp⟩,_,rfl⟩ | ⟨b1,e1,cap1,hp,hh,_,_,_,c1,hpl,hnb⟩
  ·rw[hxe]at hp
   injection hp with e1 e2 e3
   subst e3
   have hy0:ys.length=0:=by omega
   have hnil:l0++ys = []:=TQ (by omega)
   have:=h8 hy0;subst this
   refine fin (pl:=none) hrun' (lN hm Tz (λ_ _ h=>by cases h) rfl rfl rfl (MO _) (MO _) (λ_ _ _=>rfl) (λg' _ hi=>⟨none,hi,hnil⟩)) ?_
   rw[e2,hy0];exact .PN _ (bD _ _ _)
  ·rw[hxe]at hp;cases hp;have hblk:=hbx b c1 hpl b YS
   have apa:b∉MP Vw:=by intro hb;obtain⟨b2,c2,f1,f2⟩:=y5 b hb;exact hdj _ _ _ _ hpl f1 b YS (U_ _ f2)
   have hnd:(b::(MP ns++MP Vw)).Nodup:=Un.2 ⟨λhb=>(N_.1 hb).elim hnb apa,hXY⟩
   refine fin (pl:=some (b,cap,(l0++ys).length,ns++Vw)) hrun' (lN hm Tz ?_ o1 o2 o3 o4 (by omega) ?_ ?_) ?_
   ·intro b0 c0 e0 b1 hb1;cases e0;rcases NH.1 hb1 with rfl | hb1
    ·exact .inr hblk
    ·simp only[iQ]at hb1;exact .inr (aaI b1 hb1)
   ·intro b2 hb2 hno;refine h2 b2 ?_;rintro rfl;obtain⟨r,hr,B0,q1,q2,q3⟩:=hblk;exact hno r hr B0 q1 q2 q3
   ·intro g' hle hi
    refine⟨_,hi,vt hle.Lj hle.heap x2 y2 x1 y1 x4 y4 h1 (by omega) h5 h6 h7 hnd ?_⟩
    intro b2 hb2;refine h2 b2 ?_;rintro rfl;exact(Un.1 hnd).1 hb2
   ·rw[← hlen]
    exact .Nl (n:=((l0++ys).length,ns++Vw)) (bD _ _ _) (by dsimp only;omega) h5
 ·have hnd:(w.heap.size::(MP ns++MP Vw)).Nodup:=Un.2 ⟨λhb=>Nat.lt_irrefl _ (low (aaI _ hb)),hXY⟩
  refine fin (pl:=some (w.heap.size,cap,(l0++ys).length,ns++Vw)) hrun' (lN hm Tz ?_ o1 o2 o3 o4 (by omega) ?_ ?_) ?_
  ·intro b0 c0 e0 b1 hb1;cases e0;rcases NH.1 hb1 with rfl | hb1
   ·exact .inl ⟨MO _,by omega,hall _ (MO _)⟩
   ·simp only[iQ]at hb1;exact .inr (aaI b1 hb1)
  ·intro b2 hb2 _;exact h2 b2 hb2
  ·intro g' hle hi
   exact⟨_,hi,vt hle.Lj hle.heap x2 y2 x1 y1 x4 y4 h1 (by omega) h5 h6 h7 hnd (λb2 hb2=>h2 b2 (low (aaI b2 hb2)))⟩
  ·rw[← hlen]
   exact .Nl (n:=((l0++ys).length,ns++Vw)) (bD _ _ _) (by dsimp only;omega) h5
theorem sD(hm:LQ own g w m){id:Nat}{t:Ty}{l:List (ET F t)}(h:m id=some (.Nb t l)){v:Value}(hv:Mj (F:=F) g w (.Nl id) v):∃pl,g.ids id=some pl∧P8 w g.Lj t l pl∧Oo pl v:=by
 obtain⟨pl,k1,k2⟩:=hm.ok id _ h;refine⟨pl,k1,k2,?_⟩;rcases bE hv with⟨hi,p,rfl⟩ | ⟨b,c,n,hi,h1,h2,rfl⟩
 ·rw[hi]at k1;cases k1;exact⟨p,rfl⟩
 ·rw[hi]at k1;cases k1;rfl
theorem B5(hT:Mf P T){t0 t1:TypeId}{x y:Operand}(ho:o.op = .call { callee:=.builtin .append,args:=#[x,y],argTypes:=#[t0,t1] }):Rule P o vals mm c K (xz T vals mm c K t0 t1):=by
 unfold xz;refine aA (λ_=>af) (λWi=>?_)
 have aoY:t1=t0:=by simpa using Wi
 subst aoY;split
 ·rename_i e sz bt zero _ _ ht;split
  ·exact af
  ·rename_i te hte;split
   ·exact af
   ·rename_i tt Wi;have hsz:=hT.ty e te tt hte Wi;refine aA (λ_=>af) (λhz0=>?_);split
    ·rename_i rm l0 ys hnr;refine aE λr hr=>?_;intro r' hr';refine⟨_,hr',?_⟩;intro own g w a m u hle hm hd hall hfr hrep;rw[ho]at hrep;simp only[Op.operands,Call.operands,Nr,Oj,QeK,Uo,PX]at hrep;unfold CK at hnr;split at hnr
     ·rename_i id2;split at hnr
      ·rename_i t2 l2 hrow;split at hnr
       ·rename_i hk;subst hk;simp only[NI,Prod.mk.injEq]at hnr;obtain⟨rfl,rfl,h⟩:=hnr;subst h;obtain⟨h1,h2⟩:=M5 hrep;obtain⟨pl,k1,k2,k3⟩:=sD hm (hle _ _ hrow) (bj h2)
        refine tY (plx:=none) hT hm hd hall (hfr 0 (by simp)) ht rfl hte (by omega) hsz ho hr rfl k2 (p7 h1) k3 (λ_ _ h=>by cases h) ?_ (λ_ _ _ _ h=>by cases h)
        rintro b0 c rfl b hb
        exact⟨id2,by simp,_,hle _ _ hrow,rfl,b0,c,k1,hb⟩
       ·cases hnr
      ·cases hnr
     ·rename_i id id2;split at hnr
      ·rename_i t1 l1 t2 l2 ZE hrow;split at hnr
       ·rename_i hk;subst hk;split at hnr
        ·rename_i hk;subst hk;split at hnr
         ·cases hnr
         ·rename_i hne;simp only[NI,Prod.mk.injEq]at hnr;obtain⟨rfl,h,h'⟩:=hnr;subst h h';obtain⟨h1,h2⟩:=M5 hrep;obtain⟨pl,k1,k2,k3⟩:=sD hm (hle _ _ hrow) (bj h2);obtain⟨plx,q1,q2,q3⟩:=sD hm (hle _ _ ZE) (bj h1)
          refine tY hT hm hd hall (hfr 0 (by simp)) ht rfl hte (by omega) hsz ho hr q2 k2 q3 k3 ?_ ?_ ?_
          ·rintro b0 c rfl b hb
           exact⟨id,by simp,_,hle _ _ ZE,rfl,b0,c,q1,hb⟩
          ·rintro b0 c rfl b hb
           exact⟨id2,by simp,_,hle _ _ hrow,rfl,b0,c,k1,hb⟩
          ·rintro b0 c b1 c1 rfl rfl b hb hb1;have:=hm.S_ id id2 _ _ b (hle _ _ ZE) (hle _ _ hrow) rfl rfl ⟨b0,c,q1,hb⟩ ⟨b1,c1,k1,hb1⟩;subst this;exact hne (bJ _)
        ·cases hnr
       ·cases hnr
      ·cases hnr
     ·cases hnr
    split
    ·rename_i dx dy;split
     ·exact af
     ·rename_i ys hys;split
      ·refine aE λr hr=>?_;intro r' hr';refine⟨_,hr',?_⟩;intro own g w a m u hle hm hd hall hfr hrep;rw[ho]at hrep;simp only[Op.operands,Call.operands,Nr,Oj,QeK,Uo,PX]at hrep;obtain⟨h1,h2⟩:=M5 hrep;obtain⟨p,hp⟩:=p7 h1
       exact vA (rm:=[]) hT hm hd hall (hfr 0 (by simp)) ht rfl hte (by omega) hsz ho hr (xg hm hle hys h2) (.inl ⟨p,hp,rfl⟩)
      ·rename_i id;split
       ·rename_i t' l hrow;split
        ·rename_i hk;subst hk;refine aE λr hr=>?_;intro r' hr';refine⟨_,hr',?_⟩;intro own g w a m u hle hm hd hall hfr hrep;rw[ho]at hrep;simp only[Op.operands,Call.operands,Nr,Oj,QeK,Uo,PX]at hrep;obtain⟨h1,h2⟩:=M5 hrep
         refine vA (rm:=[id]) hT hm hd hall (hfr 0 (by simp)) ht rfl hte (by omega) hsz ho hr (xg hm hle hys h2) ?_
         rcases bE (bj h1)with⟨hi,p,hv⟩ | ⟨b,cap,n,hi,h3,h4,hv⟩
         ·rcases hm.ok id _ (hle _ _ hrow)with⟨_,rfl⟩ | ⟨_,_,_,_,k1,_⟩
          ·exact .inl ⟨p,hv,rfl⟩
          ·rw[hi]at k1;cases k1
         ·rcases hm.ok id _ (hle _ _ hrow)with⟨k1,_⟩ | ⟨b',cap',cur,e',k1,k2,k3,k4,k5,k6⟩
          ·rw[hi]at k1;cases k1
          ·rw[hi]at k1;cases k1;exact .inr ⟨id,b,cap,cur,e',rfl,hv,hle _ _ hrow,hi,k2,k3,k4,k5,k6⟩
        ·exact af
       ·exact af
      ·exact af
    ·exact af
 ·exact af
theorem yL{t:Ty}{l ys:List (ET F t)}{a n:Nat}(h:a+min n ys.length≤l.length):cells F t (Rm l a n ys)=(cells F t l).take (a*LV F t)++(cells F t ys).take (n*LV F t)++(cells F t l).drop (a*LV F t+((cells F t ys).take (n*LV F t)).length):=by
 have h1:cells F t (l.take a)=(cells F t l).take (a*LV F t):=by have:=mO (F:=F) (l:=l) (a:=0) (n:=a);simpa[Fx.sub]using this
 have h2:cells F t (ys.take n)=(cells F t ys).take (n*LV F t):=by have:=mO (F:=F) (l:=ys) (a:=0) (n:=n);simpa[Fx.sub]using this
 have h3:∀k,cells F t (l.drop k)=(cells F t l).drop (k*LV F t):=by
  intro k;have:=mO (F:=F) (l:=l) (a:=k) (n:=l.length);unfold Fx.sub at this
  rw[WC (by simp)]at this
  rw[this,WC];rw[Rn,aG];omega
 unfold Rm;rw[lF,lF,h1,h2,h3]
 congr 2
 rw[Ox,aG,Um]
 congr 1
 exact(QeS _ _ _).symm
theorem Bp{t t1 ty e:TypeId}{j:TypeInfo}(hu:P.underlying t=some (.slice e))(hj:P.info? e=some j){b q dLen dCap:Nat}{p:Option Addr}{sLen sCap:Nat}{cur news:List Value}{e':TypeId}
  (hb:w.heap[b]? = some (.cells ⟨cur⟩ e' (0,0))) (hl:news.length=sLen*j.size) (hp0:p=none→sLen=0) (hp:∀p',p=some p'→∀(k:Nat)(x:Value),news[k]? = some x→w.cell? (p'.add k)=some x)
  (h1:∀x∈news,x.oneCell'=true) (hfit:q+(news.take (dLen*j.size)).length≤cur.length) :
  (Builtin.copy_ #[t,t1] ty #[.slice (some ⟨b,q,none⟩) dLen dCap,.slice p sLen sCap]).run P w =
    .ok (goInt ((min sLen dLen:Nat):Int)) (w.setRow b (cur.take q++news.take (dLen*j.size)++cur.drop (q+(news.take (dLen*j.size)).length)).toArray):=by
 have hn:(news.take (dLen*j.size)).length=(min sLen dLen)*j.size:=by rw[Ox,hl,QeS,Nat.min_comm]
 have hst:=run_storeCells_at P b q e' (news.take (dLen*j.size)) 0 ⟨cur⟩ w hb (by simpa using hfit) (λv hv=>h1 v (QdM hv))
 simp only[U9]at hst
 cases p with
 | none=>
  have h0:=hp0 rfl;subst h0
  have hnil:news = []:=TQ (by simpa using hl)
  subst hnil;simp only[List.take_nil]at hst ⊢;have hm:Nat.min 0 dLen=0:=Nat.zero_min dLen;have hm2:min 0 dLen=0:=Nat.zero_min dLen;simp only[Builtin.copy_,OB,PL,run_underlying hu,Builtin.lenOf,Builtin.firstCells,sizeOf,typeInfo,run_program,hj,OO,List.getElem?_toArray,hst,hm,hm2];simp[Builtin.copy_,run_underlying hu,Builtin.lenOf,Builtin.firstCells,sizeOf,typeInfo,hj,hst,hm]
 | some p'=>
  have hf:=run_firstCells_some (P:=P) w j.size (min sLen dLen) p' sLen sCap (news.take (dLen*j.size)) hn (λk x hx=>by
   rw[RF]at hx;split at hx
   ·exact hp p' rfl k x hx
   ·cases hx)
  have hm:Nat.min sLen dLen=min sLen dLen:=rfl
  have hc:(((min sLen dLen:Nat)):Int)=min (sLen:Int) (dLen:Int):=by omega
  simp[Builtin.copy_,run_underlying hu,Builtin.lenOf,sizeOf,typeInfo,hj,hf,hm,hst,hc]
theorem ve{α : Type}{l ys:List α}{a n:Nat}(h:a+min n ys.length≤l.length):(Rm l a n ys).length=l.length:=by unfold Rm;simp only[Lc,Ox,Rn];omega
theorem zb(hT:Mf P T)(hm:LQ own g w m)(hd:∀id,u id=false→g.ids id=none)
  {t t1 e:TypeId} {i te:TI F} (ht:T t=some i) (hde:i.desc = .slice e) (hte:T e=some te) {tt:Ty} (hsz:LV F tt=te.size) {x y:Operand}
  (ho:o.op = .call { callee:=.builtin .copy,args:=#[x,y],argTypes:=#[t,t1] }) {l ys:List (ET F tt)} {id off n:Nat} (hrow:m id=some (.row tt l)) (hsrc:V8 g w tt (a.eval y) ys)
  (hdst:(g.ids id=none∨g.ids id=some none)∧off=0∧n=0∧(∃p,a.eval x = .slice p 0 0)∨∃b q dCap cap,g.ids id=some (some (b,cap,l.length,[]))∧a.eval x = .slice (some ⟨b,q,none⟩) n dCap∧off+n≤l.length∧(n=0∨q=off*LV F tt)) :
  PZ P own m u g w o a c { val:=.c (.im (.i .i64 (min n ys.length:Nat))),mw:=[(id,some (.row tt (Rm l off n ys)))] }:=by
 have hu:=hT.und _ _ ht;rw[hde]at hu;obtain⟨j,hj,hs,hb,z,hz,hzs,hzl,hzr⟩:=hT.info e te hte
 have PU:∀{v:Value}{w':World},(Builtin.copy_ #[t,t1] o.type #[a.eval x,a.eval y]).run P w = .ok v w'→(execOp a.eval o).run P w = .ok (.value v) w':=by intro v w' hr;simp only[execOp,ho,resolve,invoke,builtin,OB,PL,OO,QgC,Nr,Oj,hr]
 obtain⟨q',cap',news,hyv,n1,n0,n2,n3⟩:=hsrc
 have same:∀{l':List (ET F tt)},l'=l→Ms m [(id,some (.row tt l'))]=m:=by
  rintro l' rfl
  funext x
  simp only[Ms];split
  ·rename_i hx;rw[← Q_ hx,hrow]
  ·rfl
 have h1:∀x∈news,x.oneCell'=true:=by
  intro x hx;obtain⟨k,hk⟩:=Ye hx
  have hlt:k<(cells F tt ys).length:=by have:=(Lb.1 hk).1;rw[aG];omega
  exact(n3 k _ x (La hlt) hk).oneCell
 rcases hdst with⟨hid,rfl,rfl,p,hxv⟩ | ⟨b,q,dCap,cap,hid,hxv,hoff,hq⟩
 ·have hl:Rm l 0 0 ys=l:=by simp[Rm]
  have hrun:(execOp a.eval o).run P w = .ok (.value (goInt 0)) w:=by
   refine PU ?_;rw[hxv,hyv];have e1:Nat.min ys.length 0=0:=Nat.min_zero _
   cases p<;>cases q'<;>simp[Builtin.copy_,run_underlying hu,Builtin.lenOf,Builtin.firstCells,sizeOf,typeInfo,hj,e1,storeCells,loadCells,loadCellsFrom]
  intro next Q hn;unfold Oper.wp;rw[hrun]
  refine hn _ w g ?_ (by rw[same hl];exact hm) (.refl _ _ _) (λid hu _=>hd id hu)
  have:((min 0 ys.length:Nat):Int)=0:=by simp
  rw[this];exact OC _ _
 ·rcases hm.ok id _ hrow with⟨k1,_⟩ | ⟨b',cap2,cur,e',k1,k2,k3,k4,k5,k6⟩
  ·rw[k1]at hid;cases hid
  ·rw[k1]at hid;cases hid;have hcl:(cells F tt l).length=l.length*LV F tt:=aG
   have hcur:(cells F tt l).length≤cur.length:=by rw[hcl,k5];exact Ro _ k3
   have hm1:off+min n ys.length≤l.length:=by omega
   by_cases hn0:n=0
   ·
    subst hn0
    have hrun:=Bp (P:=P) (w:=w) (t1:=t1) (ty:=o.type) (dLen:=0) (dCap:=dCap) (q:=0) (p:=q') (sLen:=ys.length) (sCap:=cap') hu hj k2 (by rw[n1,hsz,hs]) (λh=>by rw[(n0 h).1];rfl) n2 h1 (by simp)
    have hrun':(execOp a.eval o).run P w = .ok (.value (goInt 0)) w:=by
     refine PU ?_;rw[hxv,hyv];have e1:Nat.min ys.length 0=0:=Nat.min_zero _
     cases q'<;>simp[Builtin.copy_,run_underlying hu,Builtin.lenOf,Builtin.firstCells,sizeOf,typeInfo,hj,e1,storeCells,loadCells,loadCellsFrom]
    have hl:Rm l off 0 ys=l:=by simp[Rm]
    intro next Q hn;unfold Oper.wp;rw[hrun']
    refine hn _ w g ?_ (by rw[same hl];exact hm) (.refl _ _ _) (λid hu _=>hd id hu)
    have:((min 0 ys.length:Nat):Int)=0:=by simp
    rw[this];exact OC _ _
   ·have hq:q=off*LV F tt:=hq.resolve_left hn0;subst hq
    have htk:(news.take (n*j.size)).length=min n ys.length*LV F tt:=by rw[Ox,n1,hs,← hsz,QeS]
    have hfit:off*LV F tt+(news.take (n*j.size)).length≤cur.length:=by rw[htk,← Um];have:(off+min n ys.length)*LV F tt≤l.length*LV F tt:=Ro _ hm1;omega
    have hrun:=Bp (P:=P) (w:=w) (t1:=t1) (ty:=o.type) (dLen:=n) (dCap:=dCap) (q:=off*LV F tt) (p:=q') (sLen:=ys.length) (sCap:=cap') hu hj k2 (by rw[n1,hsz,hs]) (λh=>by rw[(n0 h).1];rfl) n2 h1 hfit
    obtain⟨w1,w2⟩:=uN (B':=.row tt (Rm l off n ys)) (arr:=cur.take (off*LV F tt)++news.take (n*j.size)++cur.drop (off*LV F tt+(news.take (n*j.size)).length)) hm hrow rfl k1 k2 (by
     intro hh hle'
     refine .inr ⟨b,cap,_,e',by rw[ve hm1];exact k1,hh,by rw[ve hm1];exact k3,k4,?_,?_⟩
     ·simp only[Lc,Ox,Rn];rw[Ox]at hfit;omega
     ·intro k d x p q;refine Md.le hle' ?_;rw[yL hm1]at p
      have e1:n*j.size=n*LV F tt:=by rw[hs,hsz]
      rw[e1]at q htk;refine sj (w:=w) (Lj:=g.Lj) (cs:=cells F tt l) (ds:=(cells F tt ys).take (n*LV F tt)) (cur:=cur) (vs:=news.take (n*LV F tt)) (q:=off*LV F tt) ?_ hcur k6 ?_ ?_ k d x p q
      ·rw[Ox,aG,aG,QeS,← Um];exact Ro _ hm1
      ·rw[htk,Ox,aG,QeS]
      ·intro k d x h3 h4;rw[RF]at h3 h4;split at h3
       ·rename_i hk;rw[if_pos hk]at h4;exact n3 k d x h3 h4
       ·cases h3)
    intro next Q hn;unfold Oper.wp
    rw[PU (by rw[hxv,hyv];exact hrun)]
    refine hn _ _ g ?_ w1 w2 (λid hu _=>hd id hu);rw[Nat.min_comm];exact OC _ _
theorem F_(hT:Mf P T){t t1:TypeId}{x y:Operand}(ho:o.op = .call { callee:=.builtin .copy,args:=#[x,y],argTypes:=#[t,t1] }):Rule P o vals mm c K (Zi T vals mm K t):=by
 unfold Zi;split
 ·rename_i e _ _ _ _ _ ht;split
  ·exact af
  ·rename_i te hte;split
   ·rename_i id dy;split
    ·rename_i tt l hrow;refine aA (λhsz=>?_) (λ_=>af);split
     ·rename_i ys hys;intro r' hr';refine⟨_,hr',?_⟩;intro own g w a m u hle hm hd hall hfr hrep;rw[ho]at hrep;simp only[Op.operands,Call.operands,Nr,Oj,QeK,Uo,PX]at hrep;obtain⟨h1,h2⟩:=M5 hrep;refine zb hT hm hd ht rfl hte hsz ho (hle _ _ hrow) (xg hm hle hys h2) ?_;rcases bE (bj h1)with⟨hi,p,hv⟩ | ⟨b,cap,n,hi,h3,h4,hv⟩
      ·rcases hm.ok id _ (hle _ _ hrow)with⟨_,rfl⟩ | ⟨_,_,_,_,k1,_⟩
       ·exact .inl ⟨.inr hi,rfl,rfl,p,hv⟩
       ·rw[hi]at k1;cases k1
      ·obtain⟨rfl,_,_⟩:=dj hm (hle _ _ hrow) hi
       exact .inr ⟨b,0,cap,cap,hi,hv,by omega,.inr (by simp)⟩
     ·exact af
    ·exact af
   ·rename_i id sz off n dy;split
    ·rename_i tt l hrow;refine aA (λhsz=>?_) (λ_=>af);simp only[Ng,decide_eq_true_eq,beq_iff_eq]at hsz;obtain⟨hsz,rfl⟩:=hsz;split
     ·rename_i ys hys;intro r' hr';refine⟨_,hr',?_⟩;intro own g w a m u hle hm hd hall hfr hrep;rw[ho]at hrep;simp only[Op.operands,Call.operands,Nr,Oj,QeK,Uo,PX]at hrep;obtain⟨h1,h2⟩:=M5 hrep;refine zb hT hm hd ht rfl hte hsz ho (hle _ _ hrow) (xg hm hle hys h2) ?_;rcases pG (bj h1)with⟨hi,rfl,rfl,p,hv⟩ | ⟨b,cap,len,q,hi,h3,h4,h5,h6,hv⟩
      ·exact .inl ⟨.inr hi,rfl,rfl,p,hv⟩
      ·obtain⟨rfl,_,_⟩:=dj hm (hle _ _ hrow) hi;refine .inr ⟨b,q,_,cap,hi,hv,h3,?_⟩;rcases h5 with⟨h5,_⟩ | h5
       ·left;omega
       ·right;rw[h5,hsz]
     ·exact af
    ·exact af
   ·exact af
 ·exact af
end
set_option linter.unusedVariables false
set_option linter.unusedSimpArgs false
abbrev Vv(x:Nat×Nat×Nat):Nat×Nat×Nat×NS:=(x.1,x.2.1,x.2.2,[])
def Li:List Pl→List Nat
 | []=>[]
 | some (b,c)::l=>b::(MP c.2.2++Li l)
 | none::l=>Li l
section
variable{F:Fam}{P:Program}
def MH(w:World)(Lj:Nat→Prop)(ow:List Nat):Nat→List (ND F)→List Value→List Pl→Prop
 | _,[],[],LP=>LP = []
 | k,d::ds,v::vs,LP=>
  if Mh k ow then match d with
   | .sl t l=>∃pl rest,LP=pl::rest∧OD w Lj t l pl∧Ug t pl v∧MH w Lj ow (k+1) ds vs rest
   | _=>False
  else if Mh (k+1000) ow then match d with
   | .sl t l=>∃pl rest,LP=pl::rest∧P8 w Lj t l pl∧Oo pl v∧MH w Lj ow (k+1) ds vs rest
   | _=>False
  else Md w Lj d v∧MH w Lj ow (k+1) ds vs LP
 | _,_,_,_=>False
def NC(w:World)(Lj:Nat→Prop)(t:Ty)(ow:List Nat)(x:ET F t)(v:Value)(LP:List Pl):Prop:=
 if t.OU then∃vs,v = .agg ⟨vs⟩∧MH w Lj ow 0 (LZ F t x) vs LP else MH w Lj ow 0 (LZ F t x) [v] LP
def Uh(w:World)(Lj:Nat→Prop)(t:Ty)(ow:List Nat)(x:ET F t)(b:Nat)(LP:List Pl):Prop:=
 ∃arr e,w.heap[b]? = some (.cells ⟨arr⟩ e (0,0))∧MH w Lj ow 0 (LZ F t x) arr LP
def Y_:Bool→Pl→Value→Prop
 | false,pl,v=>Oo pl v
 | true,pl,v=>∃b c,pl=some (b,c)∧v = .pointer (some ⟨b,0,none⟩)
def Y9(t:Ty)(arr:Bool)(pl:Pl)(v:Value):Prop:=if t.Nz=true then∃b,pl=some (b,0,0,[])∧v = .map (some b)else Y_ arr pl v
def PkV(w:World)(Lj:Nat→Prop)(k:Nat)(ds:List (ND F))(v:Value):Prop:=
 ∃(b1 b2:Nat)(y:Value),v = .pointer (some ⟨b1,0,none⟩)∧Lj b1∧Lj b2∧w.cell? ⟨b1,0,none⟩=some (.pointer (some ⟨b2,0,none⟩))∧w.cell? ⟨b2,k,none⟩=some y∧Pw w Lj (ds,false) y
theorem PkV.lift{w w':World}{Lj LU:Nat→Prop}(hw:∀b,Lj b→LU b∧w'.heap[b]? = w.heap[b]?){k:Nat}{ds:List (ND F)}{v:Value}(h:PkV w Lj k ds v):PkV w' LU k ds v:=by
 obtain⟨b1,b2,y,rfl,h1,h2,h3,h4,h5⟩:=h
 exact⟨b1,b2,y,rfl,(hw _ h1).1,(hw _ h2).1,by rw[Nf (hw _ h1).2];exact h3,by rw[Nf (hw _ h2).2];exact h4,h5.mono (λb hb=>(hw b hb).1) (λb hb=>(hw b hb).2)⟩
def Held(P:Program)(w:World)(Lj:Nat→Prop):(k:Kd)→k.El F→Value→List Pl→List Pl→Prop
 | .v t ow,x,v,LP,Mg=>NC w Lj t ow x v LP∧Mg = []
 | .box t ow,x,v,LP,Mg=>∃(bx:Nat×Nat×Nat)(rest:List Pl),Mg = [some (Vv bx)]∧LP=some (Vv bx)::rest∧v = .pointer (some ⟨bx.1,0,none⟩)∧Uh w Lj t ow x bx.1 rest
 | .rp t,x,v,LP,Mg=>LP = []∧Mg = []∧Mj (F:=F) ⟨λ_=>none,Lj,λ_=>False⟩ w (.pt (LZ F t x) 0) v
 | .fn ks r,φ,v,LP,Mg=>LP = []∧Mg = []∧Vm P F w Lj ks r φ v
 | .row t arr,x,v,LP,Mg=>∃pl,Mg = [pl]∧LP = [pl]∧OD w Lj t x pl∧Y9 t arr pl v
 | .TK t,x,v,LP,Mg=>LP = []∧Mg = []∧Mj (F:=F) ⟨λ_=>none,Lj,λ_=>False⟩ w (.UE (LZ F t x)) v
 | .pk k t,x,v,LP,Mg=>LP = []∧Mg = []∧PkV w Lj k (LZ F t x) v
 | .ln t,x,v,LP,Mg=>LP = []∧Mg = []∧∃I:Nat→Prop,(∀b,I b→b<w.heap.size)∧NC w I t [] x v []
 | .nb t ow,x,v,LP,Mg=>∃(bx:Nat×Nat×Nat)(rest:List Pl),Mg = []∧LP=some (Vv bx)::rest∧v = .pointer (some ⟨bx.1,0,none⟩)∧Uh w Lj t ow x bx.1 rest
 | .cl _ _,_,_,_,_=>False
def dF(P:Program)(w:World)(Lj:Nat→Prop):(ks:List Kd)→HL F ks→List Value→List Pl→List Pl→Prop
 | [],_,vs,LP,Mg=>vs = []∧LP = []∧Mg = []
 | .cl f n::ks,a,vs,LP,Mg=>∃us vs',vs = .func (.func f) ⟨[]⟩ ⟨us⟩::vs'∧us.length=n∧dF P w Lj ks a.2 (us++vs') LP Mg
 | k::ks,a,vs,LP,Mg=>∃v vs' p1 p2 b1 b2,vs=v::vs'∧LP=p1++p2∧Mg=b1++b2∧Held P w Lj k a.1 v p1 b1∧dF P w Lj ks a.2 vs' p2 b2
theorem pP{w:World}{Lj:Nat→Prop}{k:Kd}{ks:List Kd}{a:HL F (k::ks)}{vs:List Value}{LP Mg:List Pl}(hk:k.Uv=false)(h:dF P w Lj (k::ks) a vs LP Mg) :
  ∃v vs' p1 p2 b1 b2,vs=v::vs'∧LP=p1++p2∧Mg=b1++b2∧Held P w Lj k a.1 v p1 b1∧dF P w Lj ks a.2 vs' p2 b2:=by
 cases k with
 | cl f n=>cases hk
 | _=>exact h
theorem uk{w:World}{Lj:Nat→Prop}{k:Kd}{ks:List Kd}{a:HL F (k::ks)}{vs:List Value}{LP Mg:List Pl}(hk:k.Uv=false)
  (h:∃v vs' p1 p2 b1 b2,vs=v::vs'∧LP=p1++p2∧Mg=b1++b2∧Held P w Lj k a.1 v p1 b1∧dF P w Lj ks a.2 vs' p2 b2):dF P w Lj (k::ks) a vs LP Mg:=by
 cases k with
 | cl f n=>cases hk
 | _=>exact h
def eQ(P:Program)(w:World)(Lj:Nat→Prop):(ks:List Kd)→TL F ks→List Value→List Pl→List Pl→Prop
 | [],_,vs,Mg,LP=>vs = []∧Mg = []∧LP = []
 | [.box t ow],x,vs,Mg,LP=>∃bx:Nat×Nat×Nat,vs = []∧Mg = [some (Vv bx)]∧Uh w Lj t (oo ow) x bx.1 LP
 | .box t ow::l::ks,a,vs,Mg,LP=>∃(bx:Nat×Nat×Nat)(Rx:List Pl)(p1 p2:List Pl),Mg=some (Vv bx)::Rx∧LP=p1++p2∧Uh w Lj t (oo ow) a.1 bx.1 p1∧eQ P w Lj (l::ks) a.2 vs Rx p2
 | [.row t _],x,vs,Mg,LP=>∃pl,vs = []∧Mg = [pl]∧OD w Lj t x pl∧LP = []
 | .row t _::l::ks,a,vs,Mg,LP=>∃(pl:Pl)(Rx:List Pl),Mg=pl::Rx∧OD w Lj t a.1 pl∧eQ P w Lj (l::ks) a.2 vs Rx LP
 | [k],x,vs,Mg,LP=>∃v,vs = [v]∧Mg = []∧Held P w Lj k x v LP []
 | k::l::ks,a,vs,Mg,LP=>∃v vs' p1 p2,vs=v::vs'∧LP=p1++p2∧Held P w Lj k a.1 v p1 []∧eQ P w Lj (l::ks) a.2 vs' Mg p2
structure Sy(w:World)(Lj:Nat→Prop)(bs:List Nat):Prop where
 nodup:bs.Nodup
 Lj:∀b∈bs,¬ Lj b
 lt:∀b∈bs,b<w.heap.size
def Vd:List Value→Value
 | [v]=>v
 | vs=>.tuple ⟨vs⟩
def outs(sp:Spec F):List Kd:=sp.rs++sp.ks.filter Kd.Ni
def O9(P:Program)(f:FuncId)(sp:Spec F):Prop:=
 jM P f∧∀(a:HL F sp.ks)(r:TL F (outs sp)),sp.D a=some r→∀(Lj:Nat→Prop)(w:World)(vs:List Value)(LP:List Pl) (Mg:List Pl),
  dF P w Lj sp.ks a vs LP Mg→Sy w Lj (Li LP)→(∀b,Lj b→b<w.heap.size)→
  Calls P f ⟨vs⟩ w λe w'=>∃(Rt:List Value)(LU:Nat→Prop)(Ml:List Pl),e = .returned (Vd Rt)∧
   w'.os=w.os∧w'.tape=w.tape∧w'.output=w.output∧w.drawn≤w'.drawn∧w.heap.size≤w'.heap.size∧(∀b,b<w.heap.size→b∉Li LP→w'.heap[b]? = w.heap[b]?)∧
   (∀b,Lj b→LU b)∧(∀b,LU b→Lj b∨b∈Li LP∨w.heap.size≤b)∧(∀b,LU b→b<w'.heap.size)∧
   eQ P w' LU (outs sp) r Rt Mg Ml∧Sy w' LU (Li Mg++Li Ml)∧∀b∈Li Mg++Li Ml,b∈Li LP∨w.heap.size≤b
def Mk(g:G):Option Nat→Pl
 | some i=>(g.ids i).getD none
 | none=>none
theorem MH.le{w:World}{Lj LU:Nat→Prop}(hi:∀b,Lj b→LU b){ow:List Nat}:∀{ds:List (ND F)} {k:Nat} {vs:List Value} {LP:List Pl},MH w Lj ow k ds vs LP→MH w LU ow k ds vs LP
 | [],k,vs,LP,h=>by cases vs<;>simp_all [MH]
 | d::ds,k,vs,LP,h=>by
  cases vs with
  | nil=>simp[MH]at h
  | cons v vs=>
   simp only[MH]at h ⊢;split
   ·rename_i hk;rw[if_pos hk]at h;split at h
    ·obtain⟨pl,rest,h1,h2,h3,h4⟩:=h;exact⟨pl,rest,h1,h2.Pd hi (λ_ _=>rfl) (λ_ _ _=>rfl),h3,h4.le hi⟩
    ·exact h.elim
   ·rename_i hk;rw[if_neg hk]at h;split
    ·rename_i hk2;rw[if_pos hk2]at h;split at h
     ·obtain⟨pl,rest,h1,h2,h3,h4⟩:=h;exact⟨pl,rest,h1,h2.Pd hi (λ_ _=>rfl) (λ_ _ _ _ _=>rfl),h3,h4.le hi⟩
     ·exact h.elim
    ·rename_i hk2;rw[if_neg hk2]at h;exact⟨h.1.mono hi (λ_ _=>rfl),h.2.le hi⟩
section
variable{own:Ow}{g:G}{w:World}{m mm:Nat→Option (Mi F)}
theorem B8(hm:LQ own g w m){id:Nat}{t:Ty}{l:List (ET F t)}(h:m id=some (.row t l)):dD w g.Lj t l (Mk g (some id)):=by
 rcases hm.ok id _ h with⟨h1,h2⟩ | ⟨b,cap,cur,e,k1,k2,k3,k4,k5,k6⟩
 ·simp[Mk,h1,dD,h2]
 ·have:Mk g (some id)=some (b,cap,l.length,[]):=by simp[Mk,k1]
  rw[this];exact⟨rfl,k3,k4,cur,e,k2,k5,k6⟩
theorem r7(hm:LQ own g w m){id:Nat}{t:Ty}{l:List (ET F t)}(h:m id=some (.mp t l)):∃b,Mk g (some id)=some (b,0,0,[])∧g.ids id=some (some (b,0,0,[]))∧MapAt w g.Lj t l b:=by
 obtain⟨b,h1,h2⟩:=hm.ok id _ h
 exact⟨b,by simp[Mk,h1],h1,h2⟩
theorem rT{id:Nat}{v:Value}(h:Mj (F:=F) g w (.Sz id) v):∃b c,g.ids id=some (some (b,c))∧v = .map (some b):=by
 cases h with | Sz h=>exact⟨_,_,h,rfl⟩
theorem BK(hm:LQ own g w m)(hle:P7 mm m){x:MK F}{d:ND F}{o:Option Nat}(h:tW mm x=some (d,o)){d':ND F}(hd:Vb d d')(hnn:d'≠.nl){v:Value}(hv:Mj g w x v) :
  ∃t l,d' = .sl t l∧OD w g.Lj t l (Mk g o)∧Ug t (Mk g o) v:=by
 unfold tW at h;split at h
 ·rename_i id;split at h
  ·rename_i t l hrow
   cases ht:t.Nz with
   | true=>rw[ht]at h;cases h
   | false=>
    rw[ht]at h;cases h
    cases hd with
    | refl=>
     refine⟨t,l,rfl,by rw[nW ht];exact B8 hm (hle _ _ hrow),?_⟩
     rw[qf ht];rcases bE hv with⟨hi,p,rfl⟩ | ⟨b,c,n,hi,h1,h2,rfl⟩
     ·simp[Mk,hi,Oo]
     ·simp[Mk,hi,Oo]
  ·cases h
 ·rename_i id;split at h
  ·rename_i t l hrow
   cases ht:t.Nz with
   | false=>rw[ht]at h;cases h
   | true=>
    rw[ht]at h;cases h
    cases hd with
    | refl=>
     obtain⟨b,k1,k2,k3⟩:=r7 hm (hle _ _ hrow);obtain⟨b',c',k4,rfl⟩:=rT hv;rw[k2]at k4;cases k4;refine⟨t,l,rfl,?_,?_⟩
     ·unfold OD;rw[if_pos ht];exact⟨b,k1,k3⟩
     ·unfold Ug;rw[if_pos ht];exact⟨b,k1,rfl⟩
  ·cases h
 ·cases h
  cases hd with
  | refl=>exact absurd rfl hnn
  | nl t ht=>
   obtain⟨p,rfl⟩:=p7 (P:=default) (.c hv)
   exact⟨t,[],rfl,by rw[nW ht];rfl,by rw[qf ht];exact⟨p,rfl⟩⟩
 ·cases h
theorem zL(hm:LQ own g w m)(hle:P7 mm m){x:MK F}{d:ND F}{o:Option Nat}(h:rR mm x=some (d,o)){d':ND F}(hd:Vb d d')(hnn:d'≠.nl){v:Value}(hv:Mj g w x v) :
  ∃t l,d' = .sl t l∧P8 w g.Lj t l (Mk g o)∧Oo (Mk g o) v:=by
 unfold rR at h;split at h
 ·rename_i id;have hv:=vI hm hle hv;simp only[WI]at hv;unfold xw at h;split at h
  ·rename_i t l hrow;cases h
   cases hd with
   | refl=>
    obtain⟨pl,k1,k2,k3⟩:=sD hm (hle _ _ hrow) hv
    have e:Mk g (some (Ve mm id))=pl:=by simp[Mk,k1]
    rw[e];exact⟨t,l,rfl,k2,k3⟩
  ·cases h
 ·cases h
  cases hd with
  | refl=>exact absurd rfl hnn
  | nl t _=>obtain⟨p,rfl⟩:=p7 (P:=default) (.c hv);exact⟨t,[],rfl,rfl,p,rfl⟩
 ·cases h
theorem rD{ow:List Nat}{k:Nat}{x:MK F}{r:List (MK F)}{ds:List (ND F)}{os:List (Option Nat)}{fz:List Nat}(h:iA mm ow k (x::r)=some (ds,os,fz)) :
  (Mh k ow=true∧∃d o ds' os',tW mm x=some (d,o)∧iA mm ow (k+1) r=some (ds',os',fz)∧ds=d::ds'∧os=o::os')∨
  (Mh k ow=false∧Mh (k+1000) ow=true∧∃d o ds' os',rR mm x=some (d,o)∧iA mm ow (k+1) r=some (ds',os',fz)∧ds=d::ds'∧os=o::os')∨
  (Mh k ow=false∧Mh (k+1000) ow=false∧∃d i ds' YC,Sl mm x=some (d,i)∧iA mm ow (k+1) r=some (ds',os,YC)∧ds=d::ds'∧fz=i++YC):=by
 simp only[iA]at h;split at h
 ·rename_i hk;split at h
  ·cases h
  ·rename_i d o hd;split at h
   ·cases h
   ·rename_i ds' os' YC hr;cases h;exact .inl ⟨hk,d,o,ds',os',hd,hr,rfl,rfl⟩
 ·rename_i hk;split at h
  ·rename_i hk2;split at h
   ·cases h
   ·rename_i d o hd;split at h
    ·cases h
    ·rename_i ds' os' YC hr;cases h
     exact .inr (.inl ⟨by simpa using hk,hk2,d,o,ds',os',hd,hr,rfl,rfl⟩)
  ·rename_i hk2;split at h
   ·cases h
   ·rename_i d i hd;split at h
    ·cases h
    ·rename_i ds' os' YC hr;cases h
     exact .inr (.inr ⟨by simpa using hk,by simpa using hk2,d,i,ds',YC,hd,hr,rfl,rfl⟩)
theorem pY{ow:List Nat}:∀{cs:List (MK F)} {k:Nat} {ds:List (ND F)} {os:List (Option Nat)} {fz:List Nat},iA mm ow k cs=some (ds,os,fz)→∀id∈fz,Z_ mm id
 | [],k,ds,os,fz,h=>by simp only[iA,NI]at h;cases h;simp
 | x::r,k,ds,os,fz,h=>by
  rcases rD h with⟨_,d,o,ds',os',h1,h2,rfl,rfl⟩ | ⟨_,_,d,o,ds',os',h1,h2,rfl,rfl⟩ | ⟨_,_,d,i,ds',YC,h1,h2,rfl,rfl⟩
  ·exact pY h2
  ·exact pY h2
  ·intro id hid;rcases N_.1 hid with hid | hid
   ·exact yB h1 id hid
   ·exact pY h2 id hid
theorem pV{ow:List Nat}:∀{cs:List (MK F)} {k:Nat} {ds:List (ND F)} {os:List (Option Nat)} {fz:List Nat},iA mm ow k cs=some (ds,os,fz)→∀id,some id∈os→∃B,mm id=some B∧B.owned=true
 | [],k,ds,os,fz,h=>by simp only[iA,NI]at h;cases h;simp
 | x::r,k,ds,os,fz,h=>by
  rcases rD h with⟨_,d,o,ds',os',h1,h2,rfl,rfl⟩ | ⟨_,_,d,o,ds',os',h1,h2,rfl,rfl⟩ | ⟨_,_,d,i,ds',YC,h1,h2,rfl,rfl⟩
  ·intro id hid;rcases NH.1 hid with rfl | hid
   ·unfold tW at h1;split at h1
    ·split at h1
     ·rename_i t l hrow
      cases ht:t.Nz with
      | true=>rw[ht]at h1;cases h1
      | false=>rw[ht]at h1;cases h1;exact⟨_,hrow,rfl⟩
     ·cases h1
    ·split at h1
     ·rename_i t l hrow
      cases ht:t.Nz with
      | false=>rw[ht]at h1;cases h1
      | true=>rw[ht]at h1;cases h1;exact⟨_,hrow,rfl⟩
     ·cases h1
    ·cases h1
    ·cases h1
   ·exact pV h2 id hid
  ·intro id hid;rcases NH.1 hid with rfl | hid
   ·unfold rR at h1;split at h1
    ·unfold xw at h1;split at h1
     ·rename_i hrow;cases h1;exact⟨_,hrow,rfl⟩
     ·cases h1
    ·cases h1
    ·cases h1
   ·exact pV h2 id hid
  ·exact pV h2
theorem ms(hm:LQ own g w m)(hle:P7 mm m){ow:List Nat}{LU:Nat→Prop}(hi:∀b,g.Lj b→LU b):∀{cs:List (MK F)} {k:Nat} {ds ds':List (ND F)} {os:List (Option Nat)} {fz:List Nat},iA mm ow k cs=some (ds,os,fz)→Tt ds ds'→(∀d∈ds',d≠.nl)→
  (∀id∈fz,∀b,g.blk id b→LU b)→∀{vs:List Value},vs.length=cs.length→(∀(k:Nat)(x:MK F)(v:Value),cs[k]? = some x→vs[k]? = some v→Mj g w x v)→MH w LU ow k ds' vs (os.map (Mk g))
 | [],k,ds,ds',os,fz,h,hl,ho,hf,vs,hv,hr=>by simp only[iA,NI]at h;cases h;have h1:ds' = []:=TQ hl.1.symm;have h2:vs = []:=TQ hv;subst h1 h2;rfl
 | x::r,k,ds,ds',os,fz,h,hl,ho,hf,vs,hv,hr=>by
  match vs,hv with
  | v::vs,hv=>
   have hx:=hr 0 x v rfl rfl;have hr':∀(k:Nat)(x:MK F)(v:Value),r[k]? = some x→vs[k]? = some v→Mj g w x v:=λk x v a b=>hr (k+1) x v a b;rcases rD h with⟨hk,d,o,ds0,os',h1,h2,rfl,rfl⟩ | ⟨hk,hk2,d,o,ds0,os',h1,h2,rfl,rfl⟩ | ⟨hk,hk2,d,i,ds0,YC,h1,h2,rfl,rfl⟩
   ·match ds',hl with
    | d'::ds',hl=>
     have hd:Vb d d':=hl.2 0 d d' rfl rfl
     have hl':Tt ds0 ds':=⟨by simpa using hl.1,λk a b h1 h2=>hl.2 (k+1) a b h1 h2⟩
     obtain⟨t,l,rfl,h3,h4⟩:=BK hm hle h1 hd (ho _ (by simp)) hx
     simp only[MH,hk,if_true,Nr]
     exact⟨_,_,rfl,h3.Pd hi (λ_ _=>rfl) (λ_ _ _=>rfl),h4,ms hm hle hi h2 hl' (λd hd=>ho d (by simp[hd])) hf (by simpa using hv) hr'⟩
    | [],hl=>exact absurd hl.1 (by simp)
   ·match ds',hl with
    | d'::ds',hl=>
     have hd:Vb d d':=hl.2 0 d d' rfl rfl
     have hl':Tt ds0 ds':=⟨by simpa using hl.1,λk a b h1 h2=>hl.2 (k+1) a b h1 h2⟩
     obtain⟨t,l,rfl,h3,h4⟩:=zL hm hle h1 hd (ho _ (by simp)) hx
     simp only[MH,hk,hk2,R3,if_false,if_true,Nr]
     exact⟨_,_,rfl,h3.Pd hi (λ_ _=>rfl) (λ_ _ _ _ _=>rfl),h4,ms hm hle hi h2 hl' (λd hd=>ho d (by simp[hd])) hf (by simpa using hv) hr'⟩
    | [],hl=>exact absurd hl.1 (by simp)
   ·match ds',hl with
    | d'::ds',hl=>
     have hd:Vb d d':=hl.2 0 d d' rfl rfl
     have hl':Tt ds0 ds':=⟨by simpa using hl.1,λk a b h1 h2=>hl.2 (k+1) a b h1 h2⟩
     simp only[MH,hk,hk2,R3,if_false]
     refine⟨?_,ms hm hle hi h2 hl' (λd hd=>ho d (by simp[hd])) (λid hid=>hf id (by simp[hid])) (by simpa using hv) hr'⟩
     exact(AN hm hle h1 (g1:=⟨g.ids,LU,g.len⟩) ⟨λ_ _ h=>h,hi,λ_ _=>rfl,λ_ h=>h,λ_ _=>rfl⟩ (λid hid=>hf id (by simp[hid])) hx).X8 hd
    | [],hl=>exact absurd hl.1 (by simp)
end
end
set_option linter.unusedVariables false
set_option linter.unusedSimpArgs false
section
variable{F:Fam}{P:Program}{own:Ow}{g:G}{w:World}{m mm:Nat→Option (Mi F)}
structure TT(g:G)(ids:List Nat)(im:Nat→Prop):Prop where
 Lj:∀b,g.Lj b→im b
 fz:∀id∈ids,∀b,g.blk id b→im b
theorem TT.sub{fz YC:List Nat}{Lj:Nat→Prop}(h:TT g fz Lj)(hs:∀id∈YC,id∈fz):TT g YC Lj:=⟨h.Lj,λid hid=>h.fz id (hs id hid)⟩
theorem sN(hm:LQ own g w m)(hle:P7 mm m){t:Ty}{ow:List Nat}{d:Dat F}{p:Pk (ET F t)}(h:VQ mm t ow d=some p){Lj:Nat→Prop}(hi:TT g p.fz Lj){v:Value}(hr:Me P g w d v) :
  NC w Lj t ow p.x v (p.os.map (Mk g))∧p.bx = []∧(∀id∈p.fz,Z_ mm id)∧(∀id,some id∈p.os→∃B,mm id=some B∧B.owned=true):=by
 unfold VQ at h;split at h
 ·cases h
 ·rename_i cs hcs;split at h
  ·cases h
  ·rename_i ds os fz hds;split at h
   ·cases h
   ·rename_i x hx;cases h;refine⟨?_,rfl,pY hds,λid hid=>?_⟩
    ·have TU:=cK F hx;have hnn:=rP hx;unfold Aj at hcs;split at hcs
     ·rename_i y;split at hcs
      ·cases hcs
      ·rename_i hst;cases hcs;unfold NC;rw[if_neg hst];refine ms hm hle hi.Lj hds TU hnn hi.fz rfl ?_;intro k c u h1 h2
       cases k with
       | zero=>simp only[Rh,NI]at h1 h2;subst h1 h2;exact bj hr
       | succ k=>simp at h1
     ·rename_i cs';split at hcs
      ·rename_i hst;cases hcs;unfold NC;rw[if_pos hst];obtain⟨vs,rfl,hl,hrr⟩:=pw hr;exact⟨vs,rfl,ms hm hle hi.Lj hds TU hnn hi.fz hl hrr⟩
      ·cases hcs
     ·cases hcs
    ·exact pV hds id hid
theorem oM(hm:LQ own g w m)(hle:P7 mm m){t:Ty}{ow:List Nat}{d:Dat F}{p:Pk (ET F t)}(h:om mm t ow d=some p){Lj:Nat→Prop}(hi:TT g p.fz Lj){v:Value}(hr:Me P g w d v) :
  ∃(id:Nat)(bx:Nat×Nat×Nat)(os:List (Option Nat)),p.os=some id::os∧p.bx = [id]∧d = .c (.ptr id 0)∧g.ids id=some (some (Vv bx))∧v = .pointer (some ⟨bx.1,0,none⟩)∧Uh w Lj t ow p.x bx.1 (os.map (Mk g))∧
   (∀id∈p.fz,Z_ mm id)∧(∀id,some id∈p.os→∃B,mm id=some B∧B.owned=true):=by
 unfold om at h;split at h
 ·rename_i id;split at h
  ·rename_i cs Pn;split at h
   ·cases h
   ·rename_i ds os fz hds;split at h
    ·cases h
    ·rename_i x hx;cases h;obtain⟨b,cn,hid,rfl⟩:=ci hr;obtain⟨b',Vy,arr,e,k1,k2,k3,k4⟩:=hm.ok id _ (hle _ _ Pn);rw[k1]at hid;cases hid;refine⟨id,(b,Vy),os,rfl,rfl,rfl,k1,rfl,⟨arr,e,k2,ms hm hle hi.Lj hds (cK F hx) (rP hx) hi.fz k3 k4⟩,pY hds,λid' NU=>?_⟩;rcases NH.1 NU with h1 | h1
     ·cases h1;exact⟨_,Pn,rfl⟩
     ·exact pV hds id' h1
  ·cases h
 ·cases h
theorem kj{t:Ty}{l:List (ET F t)}:(Te t l).owned=true:=by
 unfold Te;cases t.Nz<;>rfl
theorem vC(hm:LQ own g w m)(hle:P7 mm m){t:Ty}{id:Nat}{p:Pk (List (ET F t))}(h:rU mm t id=some p) :
  p.os = [some id]∧p.bx = [id]∧p.fz = []∧OD w g.Lj t p.x (Mk g (some id))∧∃l:List (ET F t),mm id=some (Te t l):=by
 unfold rU at h;split at h
 ·rename_i t' l hrow;split at h
  ·rename_i e;subst e
   cases ht:t'.Nz with
   | true=>rw[ht]at h;cases h
   | false=>
    rw[ht]at h;cases h
    exact⟨rfl,rfl,rfl,by rw[nW ht];exact B8 hm (hle _ _ hrow),l,by unfold Te;rw[ht];exact hrow⟩
  ·cases h
 ·rename_i t' l hrow;split at h
  ·rename_i e;subst e
   cases ht:t'.Nz with
   | false=>rw[ht]at h;cases h
   | true=>
    rw[ht]at h;cases h;obtain⟨b,k1,k2,k3⟩:=r7 hm (hle _ _ hrow)
    exact⟨rfl,rfl,rfl,by unfold OD;rw[if_pos ht];exact⟨b,k1,k3⟩,l,by unfold Te;rw[ht];exact hrow⟩
  ·cases h
 ·cases h
theorem OD.le{Lj LU:Nat→Prop}(hi:∀b,Lj b→LU b){t:Ty}{l:List (ET F t)}{pl:Pl}(h:OD w Lj t l pl):OD w LU t l pl:=h.Pd hi (λ_ _=>rfl) (λ_ _ _=>rfl)
theorem dD.le{Lj LU:Nat→Prop}(hi:∀b,Lj b→LU b){t:Ty}{l:List (ET F t)}{pl:Pl}(h:dD w Lj t l pl):dD w LU t l pl:=h.Pd hi (λ_ _=>rfl) (λ_ _ _=>rfl)
theorem tK{t:Ty}{arr:Bool}{d:Dat F}{id:Nat}(h:xo t arr d=some id):d=Ph t arr id:=by
 unfold xo at h;split at h
 ·cases ht:t.Nz with
  | true=>rw[ht]at h;cases h
  | false=>
   rw[ht]at h;simp only[cond_false]at h;split at h
   ·rename_i ha;cases h;subst ha;unfold Ph;rw[ht];rfl
   ·cases h
 ·cases ht:t.Nz with
  | true=>rw[ht]at h;cases h
  | false=>
   rw[ht]at h;simp only[cond_false]at h;split at h
   ·cases h
   ·rename_i ha;cases h;unfold Ph;rw[ht];simp[ha]
 ·cases ht:t.Nz with
  | false=>rw[ht]at h;cases h
  | true=>rw[ht]at h;cases h;unfold Ph;rw[ht];rfl
 ·cases h
theorem yJ{t:Ty}{arr:Bool}{id:Nat}{v:Value}(hr:Me (F:=F) P g w (Ph t arr id) v):(∃pl,g.ids id=some pl)∧(t.Nz=false→Y_ arr (Mk g (some id)) v)∧(t.Nz=true→∃b c,g.ids id=some (some (b,c))∧v = .map (some b)):=by
 unfold Ph at hr
 cases ht:t.Nz with
 | true=>
  rw[ht]at hr;obtain⟨b,c,hi,rfl⟩:=rT (bj hr)
  exact⟨⟨_,hi⟩,λe=>(by cases e),λ_=>⟨b,c,hi,rfl⟩⟩
 | false=>
  rw[ht]at hr
  cases arr with
  | true=>
   obtain⟨b,c,hi,rfl⟩:=ci hr
   exact⟨⟨_,hi⟩,λ_=>⟨b,c,by simp[Mk,hi],rfl⟩,λe=>(by cases e)⟩
  | false=>
   rcases bE (bj hr)with⟨hi,p,rfl⟩ | ⟨b,c,n,hi,h1,h2,rfl⟩
   ·exact⟨⟨_,hi⟩,λ_=>by simp[Y_,Mk,hi,Oo],λe=>(by cases e)⟩
   ·exact⟨⟨_,hi⟩,λ_=>by simp[Y_,Mk,hi,Oo],λe=>(by cases e)⟩
theorem uf(hm:LQ own g w m)(hle:P7 mm m){t:Ty}{arr:Bool}{d:Dat F}{p:Pk (List (ET F t))}(h:xD mm t arr d=some p){Lj:Nat→Prop}(hi:∀b,g.Lj b→Lj b){v:Value}(hr:Me P g w d v) :
  ∃id pl,p.os = [some id]∧p.bx = [id]∧p.fz = []∧d=Ph t arr id∧g.ids id=some pl∧OD w Lj t p.x pl∧Y9 t arr pl v∧∃l:List (ET F t),mm id=some (Te t l):=by
 unfold xD at h;split at h
 ·rename_i id hn;have hd:=tK hn;subst hd;obtain⟨h1,h2,h3,h4,h5⟩:=vC hm hle h;obtain⟨⟨pl,k1⟩,k2,k3⟩:=yJ hr
  have e:Mk g (some id)=pl:=by simp[Mk,k1]
  rw[e]at h4 k2;refine⟨id,pl,h1,h2,h3,rfl,k1,h4.le hi,?_,h5⟩;unfold Y9
  cases ht:t.Nz with
  | true=>rw[if_pos rfl];obtain⟨b,c,k4,rfl⟩:=k3 ht;unfold OD at h4;rw[if_pos ht]at h4;obtain⟨b',k5,_⟩:=h4;rw[k1,k5]at k4;cases k4;exact⟨_,k5,rfl⟩
  | false=>rw[if_neg (by simp)];exact k2 ht
 ·cases h
theorem Ac{Lj:Nat→Prop}{cs ds:List (ND F)}(hl:Tt cs ds){b o:Nat}(hb:Lj b)(h:∀k d,cs[k]? = some d→∃x,w.cell? ⟨b,o+k,none⟩=some x∧Md w Lj d x) :
  Mj (F:=F) ⟨λ_=>none,Lj,λ_=>False⟩ w (.pt ds 0) (.pointer (some ⟨b,o,none⟩)):=by
 have key:∀k d,ds[k]? = some d→∃x,w.cell? ⟨b,o+k,none⟩=some x∧Md w Lj d x:=by
  intro k d hk
  have hlt:k<cs.length:=by rw[hl.1];exact(Lb.1 hk).1
  obtain⟨x,h1,h2⟩:=h k _ (La hlt);exact⟨x,h1,h2.X8 (hl.2 k _ d (La hlt) hk)⟩
 have:=Mj.pt (F:=F) (g:=⟨λ_=>none,Lj,λ_=>False⟩) (w:=w) ds 0 b o (λk=>(w.cell? ⟨b,o+k,none⟩).getD undef) hb
  (λk d hk=>by obtain⟨x,h1,h2⟩:=key k d hk;rw[h1];rfl) (λk d hk=>by obtain⟨x,h1,h2⟩:=key k d hk;rw[h1];exact h2)
 exact this
theorem vn(hm:LQ own g w m)(hle:P7 mm m){t:Ty}{d:Dat F}{p:Pk (ET F t)}(h:wv mm t d=some p){Lj:Nat→Prop}(hi:TT g p.fz Lj){v:Value}(hr:Me P g w d v) :
  Mj (F:=F) ⟨λ_=>none,Lj,λ_=>False⟩ w (.pt (LZ F t p.x) 0) v∧p.os = []∧p.bx = []∧R4 mm p.fz:=by
 unfold wv at h;split at h
 ·split at h
  ·rename_i cs x hx;cases h;obtain⟨b,o,f,hb,rfl,hc,hrr⟩:=rO hr
   exact⟨Ac (cK F hx) (hi.Lj b hb) (λk d hk=>⟨_,hc k d hk,(hrr k d hk).mono hi.Lj (λ_ _=>rfl)⟩),rfl,rfl,λid hid=>by simp at hid⟩
  ·cases h
 ·rename_i id;split at h
  ·rename_i cs Pn;split at h
   ·cases h
   ·rename_i ds fz hds;split at h
    ·cases h
    ·rename_i x hx;cases h;obtain⟨b,cn,hid,rfl⟩:=ci hr;obtain⟨b',Vy,arr,e,k1,k2,k3,k4⟩:=hm.ok id _ (hle _ _ Pn);rw[k1]at hid;cases hid
     refine⟨Ac (cK F hx) (hi.fz id (by simp) b (G.MI k1)) ?_,rfl,rfl,?_⟩
     ·intro k d hk
      have hlt:k<arr.length:=by rw[k3,← ja hds];exact(Lb.1 hk).1
      refine⟨arr[k],by simp[World.cell?,k2,hlt],?_⟩
      exact kR hm hle hds (g1:=⟨g.ids,Lj,g.len⟩) ⟨λ_ _ h=>h,hi.Lj,λ_ _=>rfl,λ_ h=>h,λ_ _=>rfl⟩ (λid' NU b' hb'=>hi.fz id' (by simp[NU]) b' hb') arr k4 k d _ hk (La hlt)
     ·intro id' NU;rcases NH.1 NU with rfl | NU
      ·exact .inr (.inl ⟨cs,ds,fz,Pn,hds,λx hx=>by simp[hx]⟩)
      ·exact .inl (o6 hds id' NU)
  ·rename_i cs Pn;split at h
   ·rename_i x hx;cases h;obtain⟨b,cn,hid,rfl⟩:=ci hr;obtain⟨b',Vy,k1,k2,k3⟩:=hm.ok id _ (hle _ _ Pn);rw[k1]at hid;cases hid
    refine⟨Ac (cK F hx) (hi.Lj b k2) ?_,rfl,rfl,λid hid=>by simp at hid⟩
    intro k d hk;obtain⟨y,q1,q2⟩:=k3 k d hk
    exact⟨y,by rw[OY];exact q1,q2.mono hi.Lj (λ_ _=>rfl)⟩
   ·cases h
  ·cases h
 ·cases h
theorem CT{Lj:Nat→Prop}{cs ds:List (ND F)}(hl:Tt cs ds){b o b2 o2:Nat}(hb:Lj b)(hv:w.cell? ⟨b,o,none⟩=some (.pointer (some ⟨b2,o2,none⟩)))(hb2:Lj b2)(h:∀k d,cs[k]? = some d→∃x,w.cell? ⟨b2,o2+k,none⟩=some x∧Md w Lj d x) :
  Mj (F:=F) ⟨λ_=>none,Lj,λ_=>False⟩ w (.UE ds) (.pointer (some ⟨b,o,none⟩)):=by
 have key:∀k d,ds[k]? = some d→∃x,w.cell? ⟨b2,o2+k,none⟩=some x∧Md w Lj d x:=by
  intro k d hk
  have hlt:k<cs.length:=by rw[hl.1];exact(Lb.1 hk).1
  obtain⟨x,h1,h2⟩:=h k _ (La hlt);exact⟨x,h1,h2.X8 (hl.2 k _ d (La hlt) hk)⟩
 exact Mj.UE (F:=F) (g:=⟨λ_=>none,Lj,λ_=>False⟩) (w:=w) ds b o b2 o2 (λk=>(w.cell? ⟨b2,o2+k,none⟩).getD undef) hb hv hb2
  (λk d hk=>by obtain⟨x,h1,h2⟩:=key k d hk;rw[h1];rfl) (λk d hk=>by obtain⟨x,h1,h2⟩:=key k d hk;rw[h1];exact h2)
theorem vu(hm:LQ own g w m)(hle:P7 mm m){k:Nat}{t:Ty}{d:Dat F}{p:Pk (ET F t)}(h:wV mm k t d=some p){Lj:Nat→Prop}(hi:TT g p.fz Lj){v:Value}(hr:Me P g w d v) :
  PkV w Lj k (LZ F t p.x) v∧p.os = []∧p.bx = []∧R4 mm p.fz:=by
 unfold wV at h;split at h
 ·rename_i id;split at h
  ·rename_i id2 Tn;split at h
   ·rename_i cs Pn;split at h
    ·rename_i d0 hd0;split at h
     ·rename_i x hx;cases h;obtain⟨b,cn,hid,rfl⟩:=ci hr;obtain⟨b',Vy,Y8,e1,k1,k2,k3,k4⟩:=hm.ok id _ (hle _ _ Tn);rw[k1]at hid;cases hid
      match Y8,k3,k2,k4 with
      | [v1],k3,k2,k4=>
       have hv1:=k4 0 (.ptr id2 0) v1 rfl rfl;obtain⟨b2,cn2,Vj,rfl⟩:=ci (P:=P) (.c hv1);obtain⟨b3,cn3,arr,e,q1,q2,q3,q4⟩:=hm.ok id2 _ (hle _ _ Pn);rw[q1]at Vj;cases Vj
       have hlt:k<arr.length:=by rw[q3];exact(Lb.1 hd0).1
       have hy:=dn (q4 k (.im d0) _ hd0 (La hlt));have hl:=cK F hx
       refine⟨⟨_,_,arr[k],rfl,hi.fz id (by simp) _ (G.MI k1),hi.fz id2 (by simp) _ (G.MI q1),by simp[World.cell?,k2],by simp[World.cell?,q2,hlt],?_⟩,rfl,rfl,?_⟩
       ·have hy2:Md w Lj d0 arr[k]:=hy.mono hi.Lj (λ_ _=>rfl)
        match he:LZ F t x,hl with
        | [d1],hl=>exact .one (hy2.X8 (hl.2 0 d0 d1 rfl rfl))
        | [],hl=>simp[Tt]at hl
        | _::_::_,hl=>simp[Tt]at hl
       ·intro id' NU;simp only[NH,QfC,or_false]at NU;rcases NU with rfl | rfl
        ·exact .inr (.inr ⟨_,Tn,rfl⟩)
        ·exact .inr (.inr ⟨_,Pn,rfl⟩)
      | [],k3,_,_=>simp at k3
      | _::_::_,k3,_,_=>simp at k3
     ·cases h
    ·cases h
   ·cases h
  ·cases h
 ·cases h
theorem tk(hm:LQ own g w m)(hle:P7 mm m){t:Ty}{d:Dat F}{p:Pk (ET F t)}(h:uI mm t d=some p){Lj:Nat→Prop}(hi:TT g p.fz Lj){v:Value}(hr:Me P g w d v) :
  Mj (F:=F) ⟨λ_=>none,Lj,λ_=>False⟩ w (.UE (LZ F t p.x)) v∧p.os = []∧p.bx = []∧R4 mm p.fz:=by
 unfold uI at h;split at h
 ·rename_i id;split at h
  ·rename_i id2 Tn;split at h
   ·rename_i cs Pn;split at h
    ·cases h
    ·rename_i ds fz hds;split at h
     ·cases h
     ·rename_i x hx;cases h;obtain⟨b,cn,hid,rfl⟩:=ci hr;obtain⟨b',Vy,Y8,e1,k1,k2,k3,k4⟩:=hm.ok id _ (hle _ _ Tn);rw[k1]at hid;cases hid
      match Y8,k3,k2,k4 with
      | [v1],k3,k2,k4=>
       have hv1:=k4 0 (.ptr id2 0) v1 rfl rfl;obtain⟨b2,cn2,Vj,rfl⟩:=ci (P:=P) (.c hv1);obtain⟨b3,cn3,arr,e,q1,q2,q3,q4⟩:=hm.ok id2 _ (hle _ _ Pn);rw[q1]at Vj;cases Vj
       refine⟨CT (o:=0) (o2:=0) (cK F hx) (hi.fz id (by simp) _ (G.MI k1)) (by simp[World.cell?,k2]) (hi.fz id2 (by simp) _ (G.MI q1)) ?_,rfl,rfl,?_⟩
       ·intro k d hk
        have hlt:k<arr.length:=by rw[q3,← ja hds];exact(Lb.1 hk).1
        refine⟨arr[k],by simp[World.cell?,q2,hlt],?_⟩
        exact kR hm hle hds (g1:=⟨g.ids,Lj,g.len⟩) ⟨λ_ _ h=>h,hi.Lj,λ_ _=>rfl,λ_ h=>h,λ_ _=>rfl⟩ (λid' NU b' hb'=>hi.fz id' (by simp[NU]) b' hb') arr q4 k d _ hk (La hlt)
       ·intro id' NU;rcases NH.1 NU with rfl | NU
        ·exact .inr (.inr ⟨_,Tn,rfl⟩)
        ·rcases NH.1 NU with rfl | NU
         ·exact .inr (.inl ⟨cs,ds,fz,Pn,hds,λx hx=>by simp[hx]⟩)
         ·exact .inl (o6 hds id' NU)
      | [],k3,_,_=>simp at k3
      | _::_::_,k3,_,_=>simp at k3
   ·cases h
  ·rename_i cs Tn;split at h
   ·cases h
   ·rename_i x hx;cases h;obtain⟨b,cn,hid,rfl⟩:=ci hr;obtain⟨b',Vy,Y8,e1,k1,k2,k3,k4⟩:=hm.ok id _ (hle _ _ Tn);rw[k1]at hid;cases hid
    match Y8,k3,k2,k4 with
    | [v1],k3,k2,k4=>
     have hv1:=k4 0 (.pt cs 0) v1 rfl rfl;obtain⟨b2,o2,f,hb2,rfl,hc,hrr⟩:=rO (P:=P) (.c hv1)
     refine⟨CT (o:=0) (cK F hx) (hi.fz id (by simp) _ (G.MI k1)) (by simp[World.cell?,k2]) (hi.Lj b2 hb2) (λk d hk=>⟨_,hc k d hk,(hrr k d hk).mono hi.Lj (λ_ _=>rfl)⟩),rfl,rfl,?_⟩
     intro id' NU;rw[Ld]at NU;subst NU;exact .inr (.inr ⟨_,Tn,rfl⟩)
    | [],k3,_,_=>simp at k3
    | _::_::_,k3,_,_=>simp at k3
  ·cases h
 ·cases h
theorem MH.lift{w w':World}{Lj LU:Nat→Prop}(hi:∀b,Lj b→LU b∧w'.heap[b]? = w.heap[b]?):∀{ds:List (ND F)} {k:Nat} {vs:List Value},MH w Lj [] k ds vs []→MH w' LU [] k ds vs []
 | [],k,vs,h=>by cases vs<;>simp_all [MH]
 | d::ds,k,vs,h=>by
  cases vs with
  | nil=>simp[MH]at h
  | cons v vs=>simp only[MH,Mh,R3,if_false]at h ⊢;exact⟨h.1.mono (λb hb=>(hi b hb).1) (λb hb=>(hi b hb).2),h.2.lift hi⟩
theorem NC.lift{w w':World}{Lj LU:Nat→Prop}(hi:∀b,Lj b→LU b∧w'.heap[b]? = w.heap[b]?){t:Ty}{x:ET F t}{v:Value}(h:NC w Lj t [] x v []):NC w' LU t [] x v []:=by
 unfold NC at h ⊢;split
 ·rename_i hs;rw[if_pos hs]at h;obtain⟨vs,h1,h2⟩:=h;exact⟨vs,h1,h2.lift hi⟩
 ·rename_i hs;rw[if_neg hs]at h;exact h.lift hi
theorem MH.OZ{Lj:Nat→Prop}:∀{ds:List (ND F)} {k:Nat} {vs:List Value} {LP:List Pl},MH w Lj [] k ds vs LP→LP = []
 | [],k,vs,LP,h=>by cases vs<;>simp_all [MH]
 | d::ds,k,vs,LP,h=>by
  cases vs with
  | nil=>simp[MH]at h
  | cons v vs=>simp only[MH,Mh,R3,if_false]at h;exact h.2.OZ
theorem NC.OZ{Lj:Nat→Prop}{t:Ty}{x:ET F t}{v:Value}{LP:List Pl}(h:NC w Lj t [] x v LP):LP = []:=by
 unfold NC at h;split at h
 ·obtain⟨vs,_,h2⟩:=h;exact h2.OZ
 ·exact h.OZ
theorem v6{Lj:Nat→Prop}:∀{ds:List (ND F)} {k:Nat} {vs:List Value},vs.length=ds.length→(∀(k:Nat)(d:ND F)(x:Value),ds[k]? = some d→vs[k]? = some x→Md w Lj d x)→MH w Lj [] k ds vs []
 | [],k,vs,hl,_=>by have:vs = []:=TQ hl;subst this;rfl
 | d::ds,k,vs,hl,hr=>by
  match vs,hl with
  | v::vs,hl=>
   simp only[MH,Mh,R3,if_false]
   exact⟨hr 0 d v rfl rfl,v6 (by simpa using hl) (λk d x a b=>hr (k+1) d x a b)⟩
theorem Ax{Lj:Nat→Prop}{t:Ty}{x:ET F t}{v:Value}(h:Pw w Lj (LZ F t x,t.OU) v):NC w Lj t [] x v []:=by
 unfold NC
 cases hs:t.OU with
 | true=>
  rw[if_pos rfl];rw[hs]at h;generalize hc:LZ F t x=cs at h ⊢
  cases h with
  | agg hl hr=>exact⟨_,rfl,v6 hl hr⟩
 | false=>
  rw[if_neg (by simp)]
  rw[hs]at h;generalize hc:LZ F t x=cs at h ⊢
  cases h with
  | one h=>
   refine v6 rfl ?_;intro k d y h1 h2
   cases k with
   | zero=>simp only[Rh,NI]at h1 h2;subst h1 h2;exact h
   | succ k=>simp at h1
theorem vL{Lj:Nat→Prop}:∀{ds:List (ND F)} {k:Nat} {vs:List Value},MH w Lj [] k ds vs []→vs.length=ds.length∧(∀(k:Nat)(d:ND F)(x:Value),ds[k]? = some d→vs[k]? = some x→Md w Lj d x)
 | [],k,vs,h=>by cases vs<;>simp_all [MH]
 | d::ds,k,vs,h=>by
  cases vs with
  | nil=>simp[MH]at h
  | cons v vs=>
   simp only[MH,Mh,R3,if_false]at h;obtain⟨h1,h2⟩:=vL h.2
   refine⟨by simp[h1],?_⟩
   intro j d' x a b
   cases j with
   | zero=>simp only[Rh,NI]at a b;subst a b;exact h.1
   | succ j=>exact h2 j d' x a b
theorem sW{Lj:Nat→Prop}{t:Ty}{x:ET F t}{v:Value}(h:NC w Lj t [] x v []):Pw w Lj (LZ F t x,t.OU) v:=by
 unfold NC at h
 cases hs:t.OU with
 | true=>rw[hs]at h;obtain⟨vs,rfl,h2⟩:=h;obtain⟨h3,h4⟩:=vL h2;exact .agg h3 h4
 | false=>
  rw[hs]at h;simp only[R3,if_false]at h;obtain⟨h3,h4⟩:=vL h
  have hl:∃d,LZ F t x = [d]:=by
   cases hc:LZ F t x with
   | nil=>rw[hc]at h3;simp at h3
   | cons d r=>rw[hc]at h3;simp at h3;exact⟨d,by rw[h3]⟩
  obtain⟨d,hd⟩:=hl;rw[hd]
  exact .one (h4 0 d v (by rw[hd];rfl) rfl)
theorem qX{t:Ty}(hf:jG F t=true)(x:ET F t):∀d∈LZ F t x,d.flat=true:=by
 cases t with
 | int k=>simp[LZ,TH.flat]
 | bool=>simp[LZ,TH.flat]
 | str=>simp[LZ,TH.flat]
 | slice t=>simp[jG]at hf
 | st n=>
  simp only[LZ];simp only[jG]at hf
  have gen:∀(ts:List Ty)(a:M7 F ts),(ts.all λt=>match t with | .slice _=>false | .st _=>false | _=>true)=true→∀d∈OW F ts a,d.flat=true:=by
   intro ts
   induction ts with
   | nil=>intro a _ d hd;simp[OW]at hd
   | cons t ts ih=>
    intro a h d hd;simp only[QeJ,Ng]at h;rcases NH.1 hd with rfl | hd
    ·cases t<;>first | rfl | simp at h
    ·exact ih a.2 h.2 d hd
  exact gen _ _ hf
theorem Pw.flat{w w':World}{Lj LU:Nat→Prop}{cs:List (ND F)}{b:Bool}(hf:∀d∈cs,d.flat=true){v:Value}(h:Pw w Lj (cs,b) v):Pw w' LU (cs,b) v:=by
 cases h with
 | one h=>exact .one (h.flat (hf _ (by simp)))
 | agg hl h=>exact .agg hl (λk c x a b=>(h k c x a b).flat (hf c (Wx a)))
end
set_option linter.unusedVariables false
set_option linter.unusedSimpArgs false
section
variable{F:Fam}{P:Program}{own:Ow}{g:G}{w:World}{m mm:Nat→Option (Mi F)}
theorem wT(hm:LQ own g w m)(hle:P7 mm m){k:Kd}{d:Dat F}{p:Pk (k.El F)}(h:UQ mm k d=some p){Lj:Nat→Prop}(hi:TT g p.fz Lj){v:Value}(hr:Me P g w d v) :
  (∀(w':World)(LU:Nat→Prop),(∀b,Lj b→LU b∧w'.heap[b]? = w.heap[b]?)→Held P w' LU k p.x v [] [])∧R4 mm p.fz:=by
 unfold UQ at h;split at h
 ·obtain⟨h1,h2,h3,_⟩:=sN hm hle h hi hr;have h4:=h1.OZ;rw[h4]at h1;exact⟨λw' LU hw=>⟨h1.lift hw,rfl⟩,R4.Pq h3⟩
 ·obtain⟨h1,h2,h3,h4⟩:=vn hm hle h hi hr;refine⟨λw' LU hw=>⟨rfl,rfl,?_⟩,h4⟩;exact Mj.le (g:=⟨λ_=>none,Lj,λ_=>False⟩) (g':=⟨λ_=>none,LU,λ_=>False⟩) ⟨λ_ _ h=>h,λb hb=>(hw b hb).1,λb hb=>(hw b hb).2,λ_ h=>h,λ_ h=>h.elim⟩ h1
 ·obtain⟨h1,h2,h3,h4⟩:=tk hm hle h hi hr;refine⟨λw' LU hw=>⟨rfl,rfl,?_⟩,h4⟩;exact Mj.le (g:=⟨λ_=>none,Lj,λ_=>False⟩) (g':=⟨λ_=>none,LU,λ_=>False⟩) ⟨λ_ _ h=>h,λb hb=>(hw b hb).1,λb hb=>(hw b hb).2,λ_ h=>h,λ_ h=>h.elim⟩ h1
 ·obtain⟨h1,h2,h3,h4⟩:=vu hm hle h hi hr;exact⟨λw' LU hw=>⟨rfl,rfl,h1.lift hw⟩,h4⟩
 ·cases h
theorem R4.append{l r:List Nat}(h:R4 mm l)(k:R4 mm r):R4 mm (l++r):=by
 intro id hid;rcases N_.1 hid with hid | hid
 ·rcases h id hid with h | ⟨cs,ds,fz,h1,h2,h3⟩ | h
  ·exact .inl h
  ·exact .inr (.inl ⟨cs,ds,fz,h1,h2,λx hx=>by simp[h3 x hx]⟩)
  ·exact .inr (.inr h)
 ·rcases k id hid with h | ⟨cs,ds,fz,h1,h2,h3⟩ | h
  ·exact .inl h
  ·exact .inr (.inl ⟨cs,ds,fz,h1,h2,λx hx=>by simp[h3 x hx]⟩)
  ·exact .inr (.inr h)
theorem jv{vs:List Value}(h:MG (F:=F) P g w [] vs):vs = []:=TQ h.1
theorem kP{d:Dat F}{ds:List (Dat F)}{vs:List Value}(h:MG P g w (d::ds) vs):∃v vs',vs=v::vs'∧Me P g w d v∧MG P g w ds vs':=by
 match vs,h with
 | [],h=>exact absurd h.1 (by simp)
 | v::vs,h=>exact⟨v,vs,rfl,(aX.1 h).1,(aX.1 h).2⟩
theorem DW{w:World}{Lj:Nat→Prop}{d:List (ND F)×Bool}{ds:List (List (ND F)×Bool)}{vs:List Value}(h:U6 w Lj (d::ds) vs):∃v vs',vs=v::vs'∧Pw w Lj d v∧U6 w Lj ds vs':=by
 match vs,h with
 | [],h=>exact absurd h.1 (by simp)
 | v::vs,h=>exact⟨v,vs,rfl,h.2 0 d v rfl rfl,by simpa using h.1,λk d x a b=>h.2 (k+1) d x a b⟩
theorem AH{mm:Nat→Option (Mi F)}{k:Kd}{d:Dat F}{p:Pk (k.El F)}(h:UQ mm k d=some p):k.Uv=false:=by
 cases k with
 | cl f n=>simp[UQ]at h
 | _=>rfl
theorem mU(hm:LQ own g w m)(hle:P7 mm m):∀{kk:List Kd}{fs:List (Dat F)} {ks:List Ty} {cs:List (Dat F)} {q:Pk (M7 F ks→HL F kk)},O5 mm kk fs ks cs=some q→
  ∀{Lj:Nat→Prop},TT g q.fz Lj→∀{vs us:List Value},MG P g w fs vs→MG P g w cs us→
  (∀(w':World)(LU:Nat→Prop),(∀b,Lj b→LU b∧w'.heap[b]? = w.heap[b]?)→∀(a:M7 F ks)(vs':List Value),U6 w' LU (SQ F ks a) vs'→dF P w' LU kk (q.x a) (vs++vs'++us) [] [])∧R4 mm q.fz
 | [],fs,ks,cs,q,h,Lj,hi,vs,us,hf,hc=>by
  cases fs with
  | cons d fs=>cases ks<;>cases cs<;>simp[O5]at h
  | nil=>
   cases ks with
   | cons t ks=>cases cs<;>simp[O5]at h
   | nil=>
    cases cs with
    | cons d cs=>simp[O5]at h
    | nil=>
     simp only[O5,NI]at h;subst h;have h1:=jv hf;have h2:=jv hc;subst h1 h2
     refine⟨λw' LU hw a vs' ht=>?_,λid hid=>by simp at hid⟩
     have:vs' = []:=TQ ht.1;subst this;exact⟨rfl,rfl,rfl⟩
 | k::kk,d::fs,ks,cs,q,h,Lj,hi,vs,us,hf,hc=>by
  simp only[O5]at h;split at h
  ·cases h
  ·rename_i p hp;split at h
   ·cases h
   ·rename_i q' hq';cases h;obtain⟨v,YJ,rfl,hr,hf'⟩:=kP hf
    obtain⟨h1,h2⟩:=wT hm hle hp (hi.sub (λid hid=>by simp[hid])) hr
    obtain⟨h3,h4⟩:=mU hm hle hq' (hi.sub (λid hid=>by simp[hid])) hf' hc
    exact⟨λw' LU hw a vs' ht=>uk (AH hp) ⟨v,_,[],[],[],[],rfl,rfl,rfl,h1 w' LU hw,h3 w' LU hw a vs' ht⟩,h2.append h4⟩
 | k::kk,[],t::ks,cs,q,h,Lj,hi,vs,us,hf,hc=>by
  have hk:∃t',k = .v t' []:=by
   cases k with
   | v t' ow=>cases ow with
    | nil=>exact⟨t',rfl⟩
    | cons=>simp[O5]at h
   | box=>simp[O5]at h
   | rp=>simp[O5]at h
   | fn=>simp[O5]at h
   | row=>simp[O5]at h
   | TK=>simp[O5]at h
   | pk=>simp[O5]at h
   | ln=>simp[O5]at h
   | nb=>simp[O5]at h
   | cl=>simp[O5]at h
  obtain⟨t',rfl⟩:=hk;simp only[O5]at h;split at h
  ·rename_i e;subst e;split at h
   ·cases h
   ·rename_i q' hq';cases h;have h1:=jv hf;subst h1
    obtain⟨h3,h4⟩:=mU (vs:=[]) hm hle hq' hi ⟨rfl,by simp⟩ hc
    refine⟨λw' LU hw a vs' ht=>?_,h4⟩;obtain⟨v,YJ,rfl,hr,ht'⟩:=DW ht;exact⟨v,_,[],[],[],[],rfl,rfl,rfl,⟨Ax hr,rfl⟩,h3 w' LU hw a.2 YJ ht'⟩
  ·cases h
 | k::kk,[],[],cs,q,h,Lj,hi,vs,us,hf,hc=>by
  cases cs with
  | nil=>simp[O5]at h
  | cons d cs=>
   simp only[O5]at h;split at h
   ·cases h
   ·rename_i p hp;split at h
    ·cases h
    ·rename_i q' hq';cases h;have h1:=jv hf;subst h1;obtain⟨v,us0,rfl,hr,hc'⟩:=kP hc
     obtain⟨h1,h2⟩:=wT hm hle hp (hi.sub (λid hid=>by simp[hid])) hr
     obtain⟨h3,h4⟩:=mU (vs:=[]) hm hle hq' (hi.sub (λid hid=>by simp[hid])) ⟨rfl,by simp⟩ hc'
     refine⟨λw' LU hw a vs' ht=>?_,h2.append h4⟩;have h0:vs' = []:=TQ ht.1;subst h0;exact uk (AH hp) ⟨v,us0,[],[],[],[],rfl,rfl,rfl,h1 w' LU hw,h3 w' LU hw a [] ht⟩
theorem yV{sp:Spec F}{r:Ty}{D:HL F sp.ks→Option (ET F r)}(h:fG sp r=some D){a:HL F sp.ks}{y:ET F r}(hd:D a=some y) :
  ∃r',sp.D a=some r'∧∀(w:World)(Lj:Nat→Prop)(Rt:List Value)(Mg:List Pl) (LP:List Pl),eQ P w Lj (outs sp) r' Rt Mg LP→∃v,Rt = [v]∧Mg = []∧NC w Lj r [] y v LP:=by
 obtain⟨ks,rs,D0⟩:=sp
 match rs,D0,D,h,hd with
 | [.v t []],D0,D,h,hd=>
  simp only[fG]at h;simp only[outs]
  have key:∀(bl:List Kd)(D0:HL F ks→Option (TL F ([.v t []]++bl))) (D:HL F ks→Option (ET F r)),xE ks t r bl D0=some D→D a=some y→∃r',D0 a=some r'∧∀(w:World)(Lj:Nat→Prop)(Rt:List Value)(Mg:List Pl) (LP:List Pl),eQ P w Lj ([.v t []]++bl) r' Rt Mg LP→∃v,Rt = [v]∧Mg = []∧NC w Lj r [] y v LP:=by
   intro bl
   cases bl with
   | nil=>
    intro D0 D h hd;simp only[xE]at h;split at h
    ·rename_i e;subst e;cases h;refine⟨y,hd,?_⟩;intro w Lj Rt Mg LP hh;obtain⟨v,h1,h2,h3,_⟩:=hh;exact⟨v,h1,h2,h3⟩
    ·cases h
   | cons b bl=>intro D0 D h hd;cases h
  exact key _ D0 D h hd
 | [],D0,D,h,hd=>simp[fG]at h
 | .v t (_::_)::_,D0,D,h,hd=>simp[fG]at h
 | .box _ _::_,D0,D,h,hd=>simp[fG]at h
 | .rp _::_,D0,D,h,hd=>simp[fG]at h
 | .fn _ _::_,D0,D,h,hd=>simp[fG]at h
 | .row _ _::_,D0,D,h,hd=>simp[fG]at h
 | .TK _::_,D0,D,h,hd=>simp[fG]at h
 | .pk _ _::_,D0,D,h,hd=>simp[fG]at h
 | .ln _::_,D0,D,h,hd=>simp[fG]at h
 | .nb _ _::_,D0,D,h,hd=>simp[fG]at h
 | .v t []::_::_,D0,D,h,hd=>simp[fG]at h
end
set_option linter.unusedVariables false
set_option linter.unusedSimpArgs false
section
variable{F:Fam}{P:Program}{own:Ow}{g:G}{w:World}{m mm:Nat→Option (Mi F)}{Γ : Ctx F}
def MN(P:Program)(Γ : Ctx F):Prop:=∀f sp,look Γ f=some sp→O9 P f sp
theorem Dt{f:FuncId}{sp:Spec F}(hf:O9 P f sp){ks:List Ty}{r:Ty}{D:HL F sp.ks→Option (ET F r)}(hD:fG sp r=some D)(hfl:jG F r=true){q:M7 F ks→HL F sp.ks}{bs us:List Value}(hbs:bs = []∨ks.length=1){Lj:Nat→Prop}
  (hq:∀(w':World)(LU:Nat→Prop),(∀b,Lj b→LU b∧w'.heap[b]? = w.heap[b]?)→∀(a:M7 F ks)(vs':List Value),U6 w' LU (SQ F ks a) vs'→dF P w' LU sp.ks (q a) (bs++vs'++us) [] []) :
  Vm P F w Lj ks r (λa=>D (q a)) (.func (.func f) ⟨bs⟩ ⟨us⟩):=by
 refine⟨f,bs,us,rfl,hbs,hf.1,?_⟩;intro w' LU hw hlt a x vs' hφ ht;obtain⟨r',hr',hout⟩:=yV (P:=P) hD hφ
 refine(hf.2 (q a) r' hr' LU w' (bs++vs'++us) [] [] (hq w' LU hw a vs' ht) ⟨by simp[Li],by simp[Li],by simp[Li]⟩ hlt).mono ?_
 rintro e w'' ⟨Rt,akM,Ml,rfl,h1,h2,h3,hdr,h4,h5,h6,h7,h8,h9,h10,h11⟩;obtain⟨v,rfl,_,hv⟩:=hout w'' akM Rt [] Ml h9;have hn:=hv.OZ;subst hn
 exact⟨v,rfl,⟨h1,h2,h3,h4,λb hb=>h5 b hb (by simp[Li])⟩,(sW hv).flat (qX hfl x),hdr⟩
theorem BW(hΓ : MN P Γ)(hm:LQ own g w m)(hle:P7 mm m){ks:List Ty}{r:Ty}{d:Dat F}{p:Pk (M7 F ks→Option (ET F r))}(h:A5 Γ mm ks r d=some p){Lj:Nat→Prop}(hi:TT g p.fz Lj){v:Value}(hr:Me P g w d v) :
  Vm P F w Lj ks r p.x v∧p.os = []∧p.bx = []∧R4 mm p.fz:=by
 unfold A5 at h;split at h
 ·rename_i ks' r' φ;split at h
  ·rename_i e;split at h
   ·rename_i e';subst e e';cases h
    cases hr with
    | fv hr=>exact⟨Vm.le (g:=g) (g':=⟨g.ids,Lj,g.len⟩) ⟨λ_ _ h=>h,hi.Lj,λ_ _=>rfl,λ_ h=>h,λ_ _=>rfl⟩ hr,rfl,rfl,λid hid=>by simp at hid⟩
   ·cases h
  ·cases h
 ·rename_i f cs;split at h
  ·rename_i hfl;split at h
   ·cases h
   ·rename_i sp hsp;split at h
    ·rename_i D q hD hq;cases h
     cases hr with
     | RZ h1 h2 hf hc=>
      obtain⟨k1,k2⟩:=mU (P:=P) (vs:=[]) hm hle hq hi ⟨rfl,by simp⟩ ⟨h2,hc⟩
      have hv0:=TQ h1;subst hv0;exact⟨Dt (bs:=[]) (hΓ f sp hsp) hD hfl (.inl rfl) k1,rfl,rfl,k2⟩
    ·cases h
     cases hr with
     | RZ h1 h2 hf hc=>
      have hv0:=TQ h1;subst hv0
      exact⟨⟨f,[],_,rfl,.inl rfl,(hΓ f sp hsp).1,λ_ _ _ _ _ _ _ h=>nomatch h⟩,rfl,rfl,λid hid=>by simp at hid⟩
  ·cases h
 ·rename_i f d0 fs cs;split at h
  ·rename_i hfl;rw[Ng]at hfl;split at h
   ·cases h
   ·rename_i sp hsp;split at h
    ·rename_i D q hD hq;cases h
     cases hr with
     | RZ h1 h2 hf hc=>obtain⟨k1,k2⟩:=mU (P:=P) hm hle hq hi ⟨h1,hf⟩ ⟨h2,hc⟩;exact⟨Dt (hΓ f sp hsp) hD hfl.1 (.inr (Q_ hfl.2)) k1,rfl,rfl,k2⟩
    ·cases h
  ·cases h
 ·rename_i f;split at h
  ·rename_i hfl;split at h
   ·cases h
   ·rename_i sp hsp;split at h
    ·rename_i D q hD hq;cases h;have hv:=IX hr;subst hv
     obtain⟨k1,k2⟩:=mU (P:=P) (vs:=[]) (us:=[]) hm hle hq hi ⟨rfl,by simp⟩ ⟨rfl,by simp⟩
     exact⟨Dt (bs:=[]) (hΓ f sp hsp) hD hfl (.inl rfl) k1,rfl,rfl,k2⟩
    ·cases h
  ·cases h
 ·cases h
def G.lf(g:G):G:=⟨g.ids,g.al,g.len⟩
theorem uP(g:G)(w:World):Le g w g.lf w:=⟨λ_ _ h=>h,λ_ h=>.inl h,λ_ _=>rfl,λ_ h=>h,λ_ _=>rfl⟩
theorem LQ.lf(hm:LQ own g w m):LQ ⟨own.o,λb=>own.i b∨g.len b,own.nm⟩ g.lf w m:=
 ⟨λid B h=>(hm.ok id B h).le (uP g w) (λ_ _ _=>rfl),hm.S_,λid B b h ho hb=>⟨(hm.own id B b h ho hb).1,λhi=>hi.elim (hm.own id B b h ho hb).2 λhl=>(hm.len b hl).1 (hm.own id B b h ho hb).1⟩,
  λb hb=>hb.elim (hm.Lj b) λhl=>(hm.len b hl).2,λb hb=>hb.elim (λh=>(hm.io b h).imp .inl id) λh=>.inl (.inr h),hm.len⟩
theorem za{c:MK F}{v:Value}(h:Mj g w c v):Mj g.lf w (Zb c) v:=by
 cases c with
 | ln d=>cases h with | ln h=>exact .im h
 | _=>exact h.le (uP g w)
theorem zI{d:Dat F}{v:Value}(h:Me P g w d v):Me P g.lf w (VE d) v:=by
 cases h with
 | c h=>exact .c (za h)
 | agg hl h=>
  refine .agg (by rw[PI];exact hl) λk c x a b=>?_
  rw[Rf]at a;obtain⟨c0,h0,rfl⟩:=Wp.1 a;exact za (h k c0 x h0 b)
 | Pt hl h=>exact(Me.Pt hl h).le (uP g w)
 | RZ h1 h2 h3 h4=>exact(Me.RZ h1 h2 h3 h4).le (uP g w)
 | fv h=>exact(Me.fv h).le (uP g w)
 | gh h=>exact(Me.gh h).le (uP g w)
theorem yp{ds:List (Dat F)}{vs:List Value}(h:MG P g w ds vs):MG P g.lf w (ds.map VE) vs:=by
 refine⟨by rw[PI];exact h.1,λk d x a b=>?_⟩
 rw[Rf]at a;obtain⟨c0,h0,rfl⟩:=Wp.1 a;exact zI (h.2 k c0 x h0 b)
theorem sr(hΓ : MN P Γ)(hm:LQ own g w m)(hle:P7 mm m){k:Kd}{d:Dat F}{p:Pk (k.El F)}(h:Rq Γ mm k d=some p){Lj:Nat→Prop}(hi:TT g p.fz Lj){v:Value}(hr:Me P g w d v) :
  ∃Mg,Held P w Lj k p.x v (p.os.map (Mk g)) Mg∧p.bx.map g.ids=Mg.map some∧R4 mm p.fz∧(∀id,some id∈p.os→∃B,mm id=some B∧B.owned=true)∧(∀id∈p.bx,some id∈p.os):=by
 cases k with
 | v t ow=>
  obtain⟨h1,h2,h3,h4⟩:=sN hm hle h hi hr
  exact⟨[],⟨h1,rfl⟩,by rw[h2];rfl,R4.Pq h3,h4,by rw[h2];simp⟩
 | box t ow=>
  obtain⟨id,bx,os,h1,h2,h3,h4,h5,h6,h7,h8⟩:=oM hm hle h hi hr
  refine⟨[some (Vv bx)],⟨bx,os.map (Mk g),rfl,?_,h5,h6⟩,by rw[h2];simp[h4],R4.Pq h7,h8,by rw[h2,h1];simp⟩
  rw[h1];simp[Mk,h4]
 | rp t=>
  obtain⟨h1,h2,h3,h4⟩:=vn hm hle h hi hr
  exact⟨[],⟨by rw[h2];rfl,rfl,h1⟩,by rw[h3];rfl,h4,by rw[h2];simp,by rw[h3];simp⟩
 | fn ks r=>
  obtain⟨h1,h2,h3,h4⟩:=BW hΓ hm hle h hi hr
  exact⟨[],⟨by rw[h2];rfl,rfl,h1⟩,by rw[h3];rfl,h4,by rw[h2];simp,by rw[h3];simp⟩
 | TK t=>
  obtain⟨h1,h2,h3,h4⟩:=tk hm hle h hi hr
  exact⟨[],⟨by rw[h2];rfl,rfl,h1⟩,by rw[h3];rfl,h4,by rw[h2];simp,by rw[h3];simp⟩
 | pk k t=>
  obtain⟨h1,h2,h3,h4⟩:=vu hm hle h hi hr
  exact⟨[],⟨by rw[h2];rfl,rfl,h1⟩,by rw[h3];rfl,h4,by rw[h2];simp,by rw[h3];simp⟩
 | ln t=>
  simp only[Rq,F1]at h;split at h
  ·cases h
  ·rename_i p0 hp0;cases h;have hm2:=hm.lf;have hfz:TT g.lf p0.fz (g.lf.Rl p0.fz).Lj:=⟨λ_ h=>.inl h,λid hid b hb=>.inr ⟨id,hid,hb⟩⟩;obtain⟨h1,h2,h3,h4⟩:=sN hm2 hle hp0 hfz (zI hr);have hn:=h1.OZ;rw[hn]at h1
   exact⟨[],⟨rfl,rfl,_,(nK hm2 hle (R4.Pq h3)).Lj,h1⟩,rfl,λid hid=>by simp at hid,by simp,by simp⟩
 | nb t ow=>
  simp only[Rq,FY]at h;split at h
  ·rename_i p0 hp0;cases h;obtain⟨id,bx,os,h1,h2,h3,h4,h5,h6,h7,h8⟩:=oM hm hle hp0 hi hr
   refine⟨[],⟨bx,os.map (Mk g),rfl,?_,h5,h6⟩,rfl,R4.Pq h7,h8,by simp⟩
   dsimp only;rw[h1];simp[Mk,h4]
  ·cases h
 | cl f n=>cases h
 | row t arr=>
  obtain⟨id,pl,h1,h2,h3,h4,h5,h6,h7,l,h8⟩:=uf hm hle h hi.Lj hr
  refine⟨[pl],⟨pl,rfl,by rw[h1];simp[Mk,h5],h6,h7⟩,by rw[h2];simp[h5],λid hid=>by rw[h3]at hid;simp at hid,?_,by rw[h2,h1];simp⟩
  intro id' NU;rw[h1]at NU;simp only[Ld,NI]at NU;subst NU;exact⟨_,h8,kj⟩
theorem H0{g:G}{w:World}{t:Ty}{l:List (ET F t)}{arr:Bool}{pl:Pl}{c:Nat}{v:Value}(h:dD w g.Lj t l pl)(hn:g.ids c=some pl)(hv:Y_ arr pl v):Me (F:=F) P g w (if arr then .c (.ptr c 0)else .c (.Nl c)) v:=by
 cases arr with
 | true=>obtain⟨b,q,rfl,rfl⟩:=hv;exact .c (.ptr hn)
 | false=>
  refine .c ?_;have hv:Oo pl v:=hv
  cases pl with
  | none=>obtain⟨p,rfl⟩:=hv;exact .PN p hn
  | some q=>obtain⟨b,cap,n⟩:=q;obtain⟨rfl,h2,h3,_⟩:=h;cases hv;exact .Nl hn h2 h3
theorem Bu{g:G}{w:World}{t:Ty}{l:List (ET F t)}{arr:Bool}{pl:Pl}{c:Nat}{v:Value}(h:OD w g.Lj t l pl)(hn:g.ids c=some pl)(hv:Y9 t arr pl v):Me (F:=F) P g w (Ph t arr c) v:=by
 unfold Y9 at hv;unfold OD at h;unfold Ph
 cases ht:t.Nz with
 | true=>rw[ht,if_pos rfl]at hv;obtain⟨b,rfl,rfl⟩:=hv;exact .c (.Sz hn)
 | false=>
  rw[ht,if_neg (by simp)]at hv h
  exact H0 h hn hv
theorem EX{f n:Nat}{ds ds':List (Dat F)}{vs:List Value}(h:A6 f n ds=some ds')(hr:MG P g w ds vs) :
  ∃us vs',vs = .func (.func f) ⟨[]⟩ ⟨us⟩::vs'∧us.length=n∧MG P g w ds' (us++vs'):=by
 unfold A6 at h;split at h
 ·rename_i f' cs ds0;split at h
  ·rename_i hc;cases h;simp only[Ng]at hc;obtain⟨v,vs',rfl,h1,h2⟩:=kP hr;have hf:=Q_ hc.1;have hl:=Q_ hc.2;subst hf
   cases h1 with
   | RZ q1 q2 q3 q4=>
    rename_i YJ us;have e0:YJ = []:=TQ q1;subst e0
    refine⟨us,vs',rfl,by omega,by rw[Lc,Lc,q2,h2.1],?_⟩
    intro k d x hd hx;rw[List.getElem?_append]at hd hx;split at hd
    ·rename_i hlt
     rw[if_pos (by omega)]at hx
     exact q4 k d x hd hx
    ·rename_i hlt
     rw[if_neg (by omega),q2]at hx
     exact h2.2 _ d x hd hx
  ·cases h
 ·cases h
theorem Bw{k:Kd}{ks:List Kd}{d:Dat F}{ds:List (Dat F)}(hk:k.Uv=false):mf Γ mm (k::ks) (d::ds)=match Rq Γ mm k d with
  | none=>none
  | some p=>match mf Γ mm ks ds with
   | none=>none
   | some q=>some ⟨(p.x,q.x),p.os++q.os,p.fz++q.fz,p.bx++q.bx⟩:=by
 cases k with
 | cl f n=>cases hk
 | _=>rfl
theorem Dx{k:Kd}{ks:List Kd}{a:HL F (k::ks)}{c:Nat}(hk:k.Uv=false):NR (k::ks) a c=((O8 k a.1 c).1::(NR ks a.2 (O8 k a.1 c).2.2).1,(O8 k a.1 c).2.1++(NR ks a.2 (O8 k a.1 c).2.2).2.1,(NR ks a.2 (O8 k a.1 c).2.2).2.2):=by
 cases k with
 | cl f n=>cases hk
 | _=>rfl
theorem GJ{g:G}{w:World}{f n:Nat}{ds:List (Dat F)}{us vs:List Value}(hl:us.length=n)(h:MG P g w ds (us++vs)) :
  MG P g w (.RZ (.func f) [] (ds.take n)::ds.drop n) (.func (.func f) ⟨[]⟩ ⟨us⟩::vs):=by
 have hlen:ds.length=us.length+vs.length:=by rw[← h.1,Lc]
 refine aX.2 ⟨.RZ rfl (by rw[Ox];omega) (λk c x a b=>by simp at a) ?_,?_,?_⟩
 ·intro k c x a b;rw[RF]at a;split at a
  ·exact h.2 k c x a (by rw[Ru (Lb.1 b).1];exact b)
  ·cases a
 ·rw[Rn];omega
 ·intro k c x a b;rw[Tc]at a
  exact h.2 (n+k) c x a (by rw[RD (by omega),← hl,QfJ];exact b)
theorem pJ(hΓ : MN P Γ)(hm:LQ own g w m)(hle:P7 mm m):∀{ks:List Kd}{ds:List (Dat F)} {p:Pk (HL F ks)},mf Γ mm ks ds=some p→∀{Lj:Nat→Prop},TT g p.fz Lj→∀{vs:List Value},MG P g w ds vs→
  ∃Mg,dF P w Lj ks p.x vs (p.os.map (Mk g)) Mg∧p.bx.map g.ids=Mg.map some∧R4 mm p.fz∧(∀id,some id∈p.os→∃B,mm id=some B∧B.owned=true)∧(∀id∈p.bx,some id∈p.os)
 | [],ds,p,h,Lj,hi,vs,hr=>by
  cases ds with
  | cons d ds=>simp[mf]at h
  | nil=>
   simp only[mf,NI]at h;subst h;have:=jv hr;subst this
   exact⟨[],⟨rfl,rfl,rfl⟩,rfl,λid hid=>by simp at hid,by simp,by simp⟩
 | k::ks,ds,p,h,Lj,hi,vs,hr=>by
  cases hk:k.Uv with
  | true=>
   cases k with
   | cl f n=>
    simp only[mf]at h;split at h
    ·cases h
    ·rename_i ds' hds;split at h
     ·cases h
     ·rename_i q hq;cases h;obtain⟨us,vs',rfl,hn,hr'⟩:=EX hds hr;obtain⟨b2,l1,l2,l3,l4,l5⟩:=pJ hΓ hm hle hq hi hr';exact⟨b2,⟨us,vs',rfl,hn,l1⟩,l2,l3,l4,l5⟩
   | _=>cases hk
  | false=>
  cases ds with
  | nil=>cases k<;>first | exact nomatch (show(none:Option (Pk (HL F (_::ks))))=some p from h) | cases hk
  | cons d ds=>
   rw[Bw hk]at h;split at h
   ·cases h
   ·rename_i p1 hp1;split at h
    ·cases h
    ·rename_i p2 hp2;cases h;obtain⟨v,vs',rfl,h1,h2⟩:=kP hr
     obtain⟨b1,k1,k2,k3,k4,k5⟩:=sr hΓ hm hle hp1 (hi.sub (λid hid=>by simp[hid])) h1
     obtain⟨b2,l1,l2,l3,l4,l5⟩:=pJ hΓ hm hle hp2 (hi.sub (λid hid=>by simp[hid])) h2
     refine⟨b1++b2,uk hk ⟨v,vs',p1.os.map (Mk g),p2.os.map (Mk g),b1,b2,rfl,by simp,rfl,k1,l1⟩,by simp[k2,l2],k3.append l3,?_,?_⟩
     ·intro id hid;rcases N_.1 hid with hid | hid
      ·exact k4 id hid
      ·exact l4 id hid
     ·intro id hid;rcases N_.1 hid with hid | hid
      ·exact QcW _ (k5 id hid)
      ·exact QcS _ (l5 id hid)
def Po(g:G)(c:Nat)(LP:List Pl):Prop:=∀j pl,LP[j]? = some pl→g.ids (c+j)=some pl
theorem Po.left{c:Nat}{p q:List Pl}(h:Po g c (p++q)):Po g c p:=λj pl hj=>h j pl (by rw[Ru (Lb.1 hj).1];exact hj)
theorem Po.right{c:Nat}{p q:List Pl}(h:Po g c (p++q)):Po g (c+p.length) q:=λj pl hj=>by
 have:=h (p.length+j) pl (by rw[RD (by omega)];simpa using hj)
 rwa [UF]
def Laid(g:G)(w:World)(c n:Nat)(bs:List (Nat×Mi F)):Prop:=∀p∈bs,∃j,p.1=c+j∧j<n∧p.2.owned=true∧M_ g w p.1 p.2
theorem Laid.append{c n1 n2:Nat}{b1 b2:List (Nat×Mi F)}(h1:Laid g w c n1 b1)(h2:Laid g w (c+n1) n2 b2):Laid g w c (n1+n2) (b1++b2):=by
 intro p hp;rcases N_.1 hp with hp | hp
 ·obtain⟨j,k1,k2,k3⟩:=h1 p hp;exact⟨j,k1,by omega,k3⟩
 ·obtain⟨j,k1,k2,k3⟩:=h2 p hp;exact⟨n1+j,by omega,by omega,k3⟩
theorem DI{g:G}{w:World}{t:Ty}{l:List (ET F t)}{pl:Pl}{c:Nat}(h:dD w g.Lj t l pl)(hn:g.ids c=some pl):M_ g w c (.row t l):=by
 cases pl with
 | none=>exact .inl ⟨hn,h⟩
 | some q=>obtain⟨b,cap,n⟩:=q;obtain⟨rfl,h2,h3,cur,e,h4,h5,h6⟩:=h;exact .inr ⟨b,cap,cur,e,hn,h4,h2,h3,h5,h6⟩
theorem GK{g:G}{w:World}{t:Ty}{l:List (ET F t)}{pl:Pl}{c:Nat}{v:Value}(h:dD w g.Lj t l pl)(hn:g.ids c=some pl)(hv:Oo pl v):Mj (F:=F) g w (.Nl c) v:=by
 cases pl with
 | none=>obtain⟨p,rfl⟩:=hv;exact .PN p hn
 | some q=>obtain⟨b,cap,n⟩:=q;obtain⟨rfl,h2,h3,_⟩:=h;cases hv;exact .Nl hn h2 h3
theorem GR{g:G}{w:World}{t:Ty}{l:List (ET F t)}{pl:Pl}{c:Nat}{v:Value}(h:P8 w g.Lj t l pl)(hn:g.ids c=some pl)(hv:Oo pl v):Mj (F:=F) g w (.Nl c) v:=by
 cases pl with
 | none=>obtain⟨p,rfl⟩:=hv;exact .PN p hn
 | some q=>
  obtain⟨b,cap,n⟩:=q;obtain⟨h1,h2,h3,_⟩:=h;cases hv
  exact .Nl hn (by rw[h1];exact h2) h3
theorem qZ{g:G}{w:World}{t:Ty}{l:List (ET F t)}{pl:Pl}{c:Nat}(h:OD w g.Lj t l pl)(hn:g.ids c=some pl):M_ g w c (Te t l):=by
 unfold OD at h;unfold Te
 cases ht:t.Nz with
 | true=>rw[ht,if_pos rfl]at h;obtain⟨b,rfl,h⟩:=h;exact⟨b,hn,h⟩
 | false=>
  rw[ht,if_neg (by simp)]at h
  exact DI h hn
theorem Fu{g:G}{w:World}{t:Ty}{l:List (ET F t)}{pl:Pl}{c:Nat}{v:Value}(h:OD w g.Lj t l pl)(hn:g.ids c=some pl)(hv:Ug t pl v):Mj (F:=F) g w (adM F t c) v:=by
 unfold OD at h;unfold Ug at hv;unfold adM
 cases ht:t.Nz with
 | true=>rw[ht,if_pos rfl]at hv;obtain⟨b,rfl,rfl⟩:=hv;exact .Sz hn
 | false=>
  rw[ht,if_neg (by simp)]at h hv
  exact GK h hn hv
theorem ni{ow:List Nat}:∀{ds:List (ND F)} {k c:Nat} {vs:List Value} {LP:List Pl},MH w g.Lj ow k ds vs LP→Po g c LP→
  (OT ow k c ds).1.length=vs.length∧(∀(j:Nat)(x:MK F)(v:Value),(OT ow k c ds).1[j]? = some x→vs[j]? = some v→Mj g w x v)∧Laid g w c LP.length (OT ow k c ds).2.1∧(OT ow k c ds).2.2=c+LP.length∧vs.length=ds.length
 | [],k,c,vs,LP,h,hn=>by
  cases vs with
  | cons v vs=>simp[MH]at h
  | nil=>
   simp only[MH]at h;subst h
   exact⟨rfl,by simp[OT],λp hp=>by simp[OT]at hp,rfl,rfl⟩
 | d::ds,k,c,vs,LP,h,hn=>by
  cases vs with
  | nil=>simp[MH]at h
  | cons v vs=>
   simp only[MH]at h;split at h
   ·rename_i hk;split at h
    ·rename_i t l;obtain⟨pl,rest,rfl,h1,h2,h3⟩:=h;have hn0:g.ids c=some pl:=hn 0 pl rfl
     have hn':Po g (c+1) rest:=λj q hj=>by
      have:=hn (j+1) q (by simpa using hj)
      rwa [show c+1+j=c+(j+1)by omega]
     obtain⟨k1,k2,k3,k4,k5⟩:=ni (c:=c+1) h3 hn';simp only[OT,hk,if_true]
     refine⟨by simp[k1],?_,?_,by rw[k4,P5];omega,by simp[k5]⟩
     ·intro j x u hx hu
      cases j with
      | zero=>simp only[Rh,NI]at hx hu;subst hx hu;exact Fu h1 hn0 h2
      | succ j=>exact k2 j x u (by simpa using hx) (by simpa using hu)
     ·intro p hp;rcases NH.1 hp with rfl | hp
      ·exact⟨0,rfl,by simp,kj,qZ h1 hn0⟩
      ·obtain⟨j,q1,q2,q3⟩:=k3 p hp
       exact⟨j+1,by omega,by simp only[P5];omega,q3⟩
    ·exact h.elim
   ·rename_i hk;split at h
    ·rename_i hk2;split at h
     ·rename_i t l;obtain⟨pl,rest,rfl,h1,h2,h3⟩:=h;have hn0:g.ids c=some pl:=hn 0 pl rfl
      have hn':Po g (c+1) rest:=λj q hj=>by
       have:=hn (j+1) q (by simpa using hj)
       rwa [show c+1+j=c+(j+1)by omega]
      obtain⟨k1,k2,k3,k4,k5⟩:=ni (c:=c+1) h3 hn';simp only[OT,hk,hk2,R3,if_false,if_true]
      refine⟨by simp[k1],?_,?_,by rw[k4,P5];omega,by simp[k5]⟩
      ·intro j x u hx hu
       cases j with
       | zero=>simp only[Rh,NI]at hx hu;subst hx hu;exact GR h1 hn0 h2
       | succ j=>exact k2 j x u (by simpa using hx) (by simpa using hu)
      ·intro p hp;rcases NH.1 hp with rfl | hp
       ·exact⟨0,rfl,by simp,rfl,⟨pl,hn0,h1⟩⟩
       ·obtain⟨j,q1,q2,q3⟩:=k3 p hp
        exact⟨j+1,by omega,by simp only[P5];omega,q3⟩
     ·exact h.elim
    ·rename_i hk2;obtain⟨k1,k2,k3,k4,k5⟩:=ni (c:=c) h.2 hn;simp only[OT,hk,hk2,R3,if_false]
     refine⟨by simp[k1],?_,k3,k4,by simp[k5]⟩
     intro j x u hx hu
     cases j with
     | zero=>simp only[Rh,NI]at hx hu;subst hx hu;exact .im h.1
     | succ j=>exact k2 j x u (by simpa using hx) (by simpa using hu)
theorem H6{t:Ty}{ow:List Nat}{x:ET F t}{v:Value}{LP:List Pl}{c:Nat}(h:NC w g.Lj t ow x v LP)(hn:Po g c LP) :
  Me P g w (VY t (OT ow 0 c (LZ F t x)).1) v∧Laid g w c LP.length (OT ow 0 c (LZ F t x)).2.1∧(OT ow 0 c (LZ F t x)).2.2=c+LP.length:=by
 unfold NC at h;unfold VY;split at h
 ·rename_i hs;obtain⟨vs,rfl,h⟩:=h;obtain⟨k1,k2,k3,k4,_⟩:=ni (c:=c) h hn;rw[if_pos hs];exact⟨.agg k1.symm k2,k3,k4⟩
 ·rename_i hs;obtain⟨k1,k2,k3,k4,_⟩:=ni (c:=c) h hn;rw[if_neg hs];refine⟨?_,k3,k4⟩
  cases hc:(OT ow 0 c (LZ F t x)).1 with
  | nil=>rw[hc]at k1;simp at k1
  | cons y r=>
   rw[hc]at k1 k2
   cases r with
   | nil=>exact .c (k2 0 y v rfl rfl)
   | cons z r=>exact .c .any
theorem d4{k:Kd}{x:k.El F}{v:Value}{LP:List Pl}{Mg:List Pl}{c:Nat}(h:Held P w g.Lj k x v LP Mg)(hn:Po g c LP) :
  Me P g w (O8 k x c).1 v∧Laid g w c LP.length (O8 k x c).2.1∧(O8 k x c).2.2=c+LP.length:=by
 cases k with
 | v t ow=>exact H6 h.1 hn
 | box t ow=>
  obtain⟨bx,rest,rfl,rfl,rfl,arr,e,h1,h2⟩:=h;have hn0:g.ids c=some (some (Vv bx)):=hn 0 _ rfl
  have hn':Po g (c+1) rest:=λj q hj=>by
   have:=hn (j+1) q (by simpa using hj)
   rwa [show c+1+j=c+(j+1)by omega]
  obtain⟨k1,k2,k3,k4,k5⟩:=ni (c:=c+1) h2 hn';simp only[O8]
  refine⟨.c (.ptr hn0),?_,by rw[k4,P5];omega⟩
  intro p hp;rcases NH.1 hp with rfl | hp
  ·exact⟨0,rfl,by simp,rfl,bx.1,bx.2,arr,e,hn0,h1,k1.symm,k2⟩
  ·obtain⟨j,q1,q2,q3⟩:=k3 p hp
   exact⟨j+1,by omega,by simp only[P5];omega,q3⟩
 | rp t=>
  obtain⟨rfl,rfl,h⟩:=h
  refine⟨.c ?_,λp hp=>by simp[O8]at hp,rfl⟩
  exact Mj.le (g:=⟨λ_=>none,g.Lj,λ_=>False⟩) (g':=g) (w':=w) ⟨λ_ _ h=>(by cases h),λ_ h=>h,λ_ _=>rfl,λ_ h=>h.elim,λ_ h=>h.elim⟩ h
 | TK t=>
  obtain⟨rfl,rfl,h⟩:=h
  refine⟨.c ?_,λp hp=>by simp[O8]at hp,rfl⟩
  exact Mj.le (g:=⟨λ_=>none,g.Lj,λ_=>False⟩) (g':=g) (w':=w) ⟨λ_ _ h=>(by cases h),λ_ h=>h,λ_ _=>rfl,λ_ h=>h.elim,λ_ h=>h.elim⟩ h
 | fn ks r=>
  obtain⟨rfl,rfl,h⟩:=h
  exact⟨.fv h,λp hp=>by simp[O8]at hp,rfl⟩
 | ln t=>
  obtain⟨rfl,rfl,h⟩:=h
  exact⟨.c .any,λp hp=>by simp[O8]at hp,rfl⟩
 | pk k t=>
  obtain⟨rfl,rfl,h⟩:=h
  exact⟨.c .any,λp hp=>by simp[O8]at hp,rfl⟩
 | cl f n=>exact h.elim
 | nb t ow=>
  obtain⟨bx,rest,rfl,rfl,rfl,arr,e,h1,h2⟩:=h;have hn0:g.ids c=some (some (Vv bx)):=hn 0 _ rfl
  have hn':Po g (c+1) rest:=λj q hj=>by
   have:=hn (j+1) q (by simpa using hj)
   rwa [show c+1+j=c+(j+1)by omega]
  obtain⟨k1,k2,k3,k4,k5⟩:=ni (c:=c+1) h2 hn';simp only[O8]
  refine⟨.c (.ptr hn0),?_,by rw[k4,P5];omega⟩
  intro p hp;rcases NH.1 hp with rfl | hp
  ·exact⟨0,rfl,by simp,rfl,bx.1,bx.2,arr,e,hn0,h1,k1.symm,k2⟩
  ·obtain⟨j,q1,q2,q3⟩:=k3 p hp
   exact⟨j+1,by omega,by simp only[P5];omega,q3⟩
 | row t arr=>
  obtain⟨pl,rfl,rfl,h1,h2⟩:=h;have hn0:g.ids c=some pl:=hn 0 _ rfl;simp only[O8];refine⟨Bu h1 hn0 h2,?_,rfl⟩;intro p hp;rw[Ld]at hp;subst hp
  exact⟨0,rfl,by simp,kj,qZ h1 hn0⟩
theorem sE:∀{ks:List Kd}{a:HL F ks}{vs:List Value}{LP:List Pl} {Mg:List Pl} {c:Nat},dF P w g.Lj ks a vs LP Mg→Po g c LP→
  MG P g w (NR ks a c).1 vs∧Laid g w c LP.length (NR ks a c).2.1∧(NR ks a c).2.2=c+LP.length∧(aU ks a c).map g.ids=Mg.map some
 | [],a,vs,LP,Mg,c,h,hn=>by
  obtain⟨rfl,rfl,rfl⟩:=h
  exact⟨⟨rfl,by simp[NR]⟩,λp hp=>by simp[NR]at hp,rfl,rfl⟩
 | k::ks,a,vs,LP,Mg,c,h,hn=>by
  cases hk:k.Uv with
  | true=>
   cases k with
   | cl f n=>
    obtain⟨us,vs',rfl,hl,h2⟩:=h;obtain⟨l1,l2,l3,l4⟩:=sE (c:=c) h2 hn;simp only[NR]
    exact⟨GJ hl l1,l2,l3,by simp only[aU,O8];exact l4⟩
   | _=>cases hk
  | false=>
  obtain⟨v,vs',p1,p2,b1,b2,rfl,rfl,rfl,h1,h2⟩:=pP hk h;rw[Dx hk];obtain⟨k1,k2,k3⟩:=d4 (c:=c) h1 hn.left;obtain⟨l1,l2,l3,l4⟩:=sE (c:=c+p1.length) h2 hn.right;rw[k3];dsimp only
  refine⟨aX.2 ⟨k1,l1⟩,by rw[Lc];exact k2.append l2,by rw[l3,Lc];omega,?_⟩
  have hb:(aU (k::ks) a c).map g.ids=b1.map some++(aU ks a.2 (c+p1.length)).map g.ids:=by
   cases k with
   | box t ow=>obtain⟨bx,rest,rfl,rfl,_⟩:=h1;have hn0:g.ids c=some (some (Vv bx)):=hn 0 _ rfl;simp only[aU,k3,Nr,hn0,Oj,QfX]
   | v t ow=>have:=h1.2;subst this;simp only[aU,k3,Oj,PX]
   | rp t=>have:=h1.2.1;subst this;simp only[aU,k3,Oj,PX]
   | fn ks' r=>have:=h1.2.1;subst this;simp only[aU,k3,Oj,PX]
   | TK t=>have:=h1.2.1;subst this;simp only[aU,k3,Oj,PX]
   | pk k t=>have:=h1.2.1;subst this;simp only[aU,k3,Oj,PX]
   | ln t=>have:=h1.2.1;subst this;simp only[aU,k3,Oj,PX]
   | nb t ow=>obtain⟨_,_,rfl,_⟩:=h1;simp only[aU,k3,Oj,PX]
   | cl f n=>cases hk
   | row t arr=>obtain⟨pl,rfl,rfl,_⟩:=h1;have hn0:g.ids c=some pl:=hn 0 _ rfl;simp only[aU,k3,Nr,hn0,Oj,QfX]
  rw[hb,l4,Uo]
end
set_option linter.unusedVariables false
set_option linter.unusedSimpArgs false
section
variable{F:Fam}{P:Program}{own:Ow}{g:G}{w:World}{m mm:Nat→Option (Mi F)}{Γ : Ctx F}
theorem db{b:Nat}:∀{LP:List Pl},b∈Li LP↔∃(j:Nat)(b0:Nat)(x:Nat×Nat×NS),LP[j]? = some (some (b0,x))∧b∈b0::MP x.2.2
 | []=>by simp[Li]
 | none::l=>by
  simp only[Li,db];constructor
  ·rintro⟨j,b0,x,h,h'⟩;exact⟨j+1,b0,x,by simpa using h,h'⟩
  ·rintro⟨j,b0,x,h,h'⟩
   cases j with
   | zero=>simp at h
   | succ j=>exact⟨j,b0,x,by simpa using h,h'⟩
 | some (b',y)::l=>by
  simp only[Li];rw[← UH,N_,db];constructor
  ·rintro(h | ⟨j,b0,x,h,h'⟩)
   ·exact⟨0,b',y,rfl,h⟩
   ·exact⟨j+1,b0,x,by simpa using h,h'⟩
  ·rintro⟨j,b0,x,h,h'⟩
   cases j with
   | zero=>simp only[Rh,NI,Prod.mk.injEq]at h;obtain⟨rfl,rfl⟩:=h;exact .inl h'
   | succ j=>exact .inr ⟨j,b0,x,by simpa using h,h'⟩
theorem nh{b:Nat}:∀{LP:List Pl},(Li LP).Nodup→∀{j j' b0 b0':Nat}{x x':Nat×Nat×NS},LP[j]? = some (some (b0,x))→b∈b0::MP x.2.2→LP[j']? = some (some (b0',x'))→b∈b0'::MP x'.2.2→j=j'
 | [],_,j,j',b0,b0',x,x',h,_,h',_=>by simp at h
 | none::l,hn,j,j',b0,b0',x,x',h,hb,h',hb'=>by
  cases j with
  | zero=>simp at h
  | succ j=>
   cases j' with
   | zero=>simp at h'
   | succ j'=>exact congrArg (· + 1) (nh (LP:=l) hn (by simpa using h) hb (by simpa using h') hb')
 | some (b',y)::l,hn,j,j',b0,b0',x,x',h,hb,h',hb'=>by
  simp only[Li]at hn;rw[← UH]at hn;obtain⟨n1,n2,n3⟩:=Xd.1 hn
  cases j with
  | zero=>
   cases j' with
   | zero=>rfl
   | succ j'=>
    simp only[Rh,NI,Prod.mk.injEq]at h;obtain⟨rfl,rfl⟩:=h
    exact absurd rfl (n3 b hb b (db.2 ⟨j',b0',x',by simpa using h',hb'⟩))
  | succ j=>
   cases j' with
   | zero=>
    simp only[Rh,NI,Prod.mk.injEq]at h';obtain⟨rfl,rfl⟩:=h'
    exact absurd rfl (n3 b hb' b (db.2 ⟨j,b0,x,by simpa using h,hb⟩))
   | succ j'=>exact congrArg (· + 1) (nh (LP:=l) n2 (by simpa using h) hb (by simpa using h') hb')
theorem aM:∀{p q:List Pl},Li (p++q)=Li p++Li q
 | [],q=>rfl
 | none::p,q=>by simp only[UH,Li,aM]
 | some (b,x)::p,q=>by simp only[UH,Li,aM,PS]
def SG(g:G)(w:World)(c n:Nat)(bx:List Nat)(bs:List (Nat×Mi F)):Prop:=∀p∈bs,p.2.owned=true∧M_ g w p.1 p.2∧((∃j,p.1=c+j∧j<n)∨p.1∈bx)
theorem Laid.back{c n:Nat}{bs:List (Nat×Mi F)}(h:Laid g w c n bs):SG g w c n [] bs:=by intro p hp;obtain⟨j,h1,h2,h3,h4⟩:=h p hp;exact⟨h3,h4,.inl ⟨j,h1,h2⟩⟩
theorem SG.append{c n1 n2:Nat}{x1 x2:List Nat}{b1 b2:List (Nat×Mi F)}(h1:SG g w c n1 x1 b1)(h2:SG g w (c+n1) n2 x2 b2):SG g w c (n1+n2) (x1++x2) (b1++b2):=by
 intro p hp;rcases N_.1 hp with hp | hp
 ·obtain⟨k1,k2,⟨j,k3,k4⟩ | k3⟩:=h1 p hp
  ·exact⟨k1,k2,.inl ⟨j,k3,by omega⟩⟩
  ·exact⟨k1,k2,.inr (by simp[k3])⟩
 ·obtain⟨k1,k2,⟨j,k3,k4⟩ | k3⟩:=h2 p hp
  ·exact⟨k1,k2,.inl ⟨n1+j,by omega,by omega⟩⟩
  ·exact⟨k1,k2,.inr (by simp[k3])⟩
theorem vM{t:Ty}{ow:List Nat}{x:ET F t}{bx:Nat×Nat×Nat}{b c:Nat}{LP:List Pl}(h:Uh w g.Lj t ow x bx.1 LP)(hb:g.ids b=some (some (Vv bx)))(hn:Po g c LP) :
  SG g w c LP.length [b] ((b,.box (OT ow 0 c (LZ F t x)).1)::(OT ow 0 c (LZ F t x)).2.1)∧(OT ow 0 c (LZ F t x)).2.2=c+LP.length:=by
 obtain⟨arr,e,h1,h2⟩:=h;obtain⟨k1,k2,k3,k4,_⟩:=ni (c:=c) h2 hn;refine⟨?_,k4⟩;intro p hp;rcases NH.1 hp with rfl | hp
 ·exact⟨rfl,⟨bx.1,bx.2,arr,e,hb,h1,k1.symm,k2⟩,.inr (by simp)⟩
 ·obtain⟨j,q1,q2,q3,q4⟩:=k3 p hp;exact⟨q3,q4,.inl ⟨j,q1,q2⟩⟩
theorem mv{α β : Type}{f:α→β}{l:List α}{y:β}{r:List β}(h:l.map f=y::r):∃x l',l=x::l'∧f x=y∧l'.map f=r:=by
 cases l with
 | nil=>simp at h
 | cons x l'=>simp only[Nr,QgL]at h;exact⟨x,l',rfl,h.1,h.2⟩
theorem gp:∀{ks:List Kd}{a:TL F ks}{vs:List Value}{Mg:List Pl} {LP:List Pl} {bx:List Nat} {c:Nat},eQ P w g.Lj ks a vs Mg LP→Po g c LP→bx.map g.ids=Mg.map some→
  MG P g w (aw ks a bx c).1 vs∧SG g w c LP.length bx (aw ks a bx c).2.1∧(aw ks a bx c).2.2=c+LP.length
 | [],a,vs,Mg,LP,bx,c,h,hn,hb=>by
  obtain⟨rfl,rfl,rfl⟩:=h
  exact⟨⟨rfl,by simp[aw]⟩,λp hp=>by simp[aw]at hp,rfl⟩
 | [.box t ow],a,vs,Mg,LP,bx,c,h,hn,hb=>by
  obtain⟨b,rfl,rfl,h⟩:=h;obtain⟨i,bx',rfl,h1,h2⟩:=mv hb
  have:bx' = []:=by simpa using h2
  subst this;obtain⟨k1,k2⟩:=vM h h1 hn
  exact⟨⟨rfl,by simp[aw]⟩,by simpa[aw]using k1,by simpa[aw]using k2⟩
 | [.row t arr],a,vs,Mg,LP,bx,c,h,hn,hb=>by
  obtain⟨pl,rfl,rfl,h,rfl⟩:=h;obtain⟨i,bx',rfl,h1,h2⟩:=mv hb
  have:bx' = []:=by simpa using h2
  subst this
  refine⟨⟨rfl,by simp[aw]⟩,?_,rfl⟩
  intro p hp;simp only[aw,Ld]at hp;subst hp
  exact⟨kj,qZ h h1,.inr (by simp)⟩
 | .row t arr::l::ks,a,vs,Mg,LP,bx,c,h,hn,hb=>by
  obtain⟨pl,Rx,rfl,h1,h2⟩:=h;obtain⟨i,bx',rfl,h3,h4⟩:=mv hb;obtain⟨l1,l2,l3⟩:=gp (c:=c) h2 hn h4;simp only[aw];refine⟨l1,?_,l3⟩;intro p hp;rcases NH.1 hp with rfl | hp
  ·exact⟨kj,qZ h1 h3,.inr (by simp)⟩
  ·obtain⟨q1,q2,q3⟩:=l2 p hp
   exact⟨q1,q2,q3.imp id (λh=>by simp[h])⟩
 | [.v t ow],a,vs,Mg,LP,bx,c,h,hn,hb=>by
  obtain⟨v,rfl,rfl,h⟩:=h;obtain⟨k1,k2,k3⟩:=d4 (c:=c) h hn
  have:bx = []:=by simpa using hb
  subst this
  exact⟨⟨rfl,λk d x h1 h2=>by cases k with | zero=>simp[aw]at h1 h2;subst h1 h2;exact k1 | succ k=>simp[aw]at h1⟩,by simpa[aw]using k2.back,by simpa[aw]using k3⟩
 | [.cl f n],a,vs,Mg,LP,bx,c,h,hn,hb=>by obtain⟨v,rfl,rfl,h⟩:=h;exact h.elim
 | .cl f n::l::ks,a,vs,Mg,LP,bx,c,h,hn,hb=>by obtain⟨v,vs',p1,p2,rfl,rfl,h1,h2⟩:=h;exact h1.elim
 | [.rp t],a,vs,Mg,LP,bx,c,h,hn,hb=>by
  obtain⟨v,rfl,rfl,h⟩:=h;obtain⟨k1,k2,k3⟩:=d4 (c:=c) h hn
  have:bx = []:=by simpa using hb
  subst this
  exact⟨⟨rfl,λk d x h1 h2=>by cases k with | zero=>simp[aw]at h1 h2;subst h1 h2;exact k1 | succ k=>simp[aw]at h1⟩,by simpa[aw]using k2.back,by simpa[aw]using k3⟩
 | [.TK t],a,vs,Mg,LP,bx,c,h,hn,hb=>by
  obtain⟨v,rfl,rfl,h⟩:=h;obtain⟨k1,k2,k3⟩:=d4 (c:=c) h hn
  have:bx = []:=by simpa using hb
  subst this
  exact⟨⟨rfl,λk d x h1 h2=>by cases k with | zero=>simp[aw]at h1 h2;subst h1 h2;exact k1 | succ k=>simp[aw]at h1⟩,by simpa[aw]using k2.back,by simpa[aw]using k3⟩
 | [.pk k0 t],a,vs,Mg,LP,bx,c,h,hn,hb=>by
  obtain⟨v,rfl,rfl,h⟩:=h;obtain⟨k1,k2,k3⟩:=d4 (c:=c) h hn
  have:bx = []:=by simpa using hb
  subst this
  exact⟨⟨rfl,λk d x h1 h2=>by cases k with | zero=>simp[aw]at h1 h2;subst h1 h2;exact k1 | succ k=>simp[aw]at h1⟩,by simpa[aw]using k2.back,by simpa[aw]using k3⟩
 | [.ln t],a,vs,Mg,LP,bx,c,h,hn,hb=>by
  obtain⟨v,rfl,rfl,h⟩:=h;obtain⟨k1,k2,k3⟩:=d4 (c:=c) h hn
  have:bx = []:=by simpa using hb
  subst this
  exact⟨⟨rfl,λk d x h1 h2=>by cases k with | zero=>simp[aw]at h1 h2;subst h1 h2;exact k1 | succ k=>simp[aw]at h1⟩,by simpa[aw]using k2.back,by simpa[aw]using k3⟩
 | [.nb t ow],a,vs,Mg,LP,bx,c,h,hn,hb=>by
  obtain⟨v,rfl,rfl,h⟩:=h;obtain⟨k1,k2,k3⟩:=d4 (c:=c) h hn
  have:bx = []:=by simpa using hb
  subst this
  exact⟨⟨rfl,λk d x h1 h2=>by cases k with | zero=>simp[aw]at h1 h2;subst h1 h2;exact k1 | succ k=>simp[aw]at h1⟩,by simpa[aw]using k2.back,by simpa[aw]using k3⟩
 | [.fn ks r],a,vs,Mg,LP,bx,c,h,hn,hb=>by
  obtain⟨v,rfl,rfl,h⟩:=h;obtain⟨k1,k2,k3⟩:=d4 (c:=c) h hn
  have:bx = []:=by simpa using hb
  subst this
  exact⟨⟨rfl,λk d x h1 h2=>by cases k with | zero=>simp[aw]at h1 h2;subst h1 h2;exact k1 | succ k=>simp[aw]at h1⟩,by simpa[aw]using k2.back,by simpa[aw]using k3⟩
 | .box t ow::l::ks,a,vs,Mg,LP,bx,c,h,hn,hb=>by
  obtain⟨b,Rx,p1,p2,rfl,rfl,h1,h2⟩:=h;obtain⟨i,bx',rfl,h3,h4⟩:=mv hb;obtain⟨k1,k2⟩:=vM h1 h3 hn.left;obtain⟨l1,l2,l3⟩:=gp (c:=c+p1.length) h2 hn.right h4;simp only[aw];rw[k2]
  refine⟨l1,?_,by rw[l3,Lc];omega⟩
  rw[Lc];have:=k1.append l2;simpa using this
 | .v t ow::l::ks,a,vs,Mg,LP,bx,c,h,hn,hb=>by
  obtain⟨v,vs',p1,p2,rfl,rfl,h1,h2⟩:=h;obtain⟨k1,k2,k3⟩:=d4 (c:=c) h1 hn.left;obtain⟨l1,l2,l3⟩:=gp (c:=c+p1.length) h2 hn.right hb;simp only[aw];rw[k3]
  refine⟨aX.2 ⟨k1,l1⟩,?_,by rw[l3,Lc];omega⟩
  rw[Lc];simpa using k2.back.append l2
 | .rp t::l::ks,a,vs,Mg,LP,bx,c,h,hn,hb=>by
  obtain⟨v,vs',p1,p2,rfl,rfl,h1,h2⟩:=h;obtain⟨k1,k2,k3⟩:=d4 (c:=c) h1 hn.left;obtain⟨l1,l2,l3⟩:=gp (c:=c+p1.length) h2 hn.right hb;simp only[aw];rw[k3]
  refine⟨aX.2 ⟨k1,l1⟩,?_,by rw[l3,Lc];omega⟩
  rw[Lc];simpa using k2.back.append l2
 | .TK t::l::ks,a,vs,Mg,LP,bx,c,h,hn,hb=>by
  obtain⟨v,vs',p1,p2,rfl,rfl,h1,h2⟩:=h;obtain⟨k1,k2,k3⟩:=d4 (c:=c) h1 hn.left;obtain⟨l1,l2,l3⟩:=gp (c:=c+p1.length) h2 hn.right hb;simp only[aw];rw[k3]
  refine⟨aX.2 ⟨k1,l1⟩,?_,by rw[l3,Lc];omega⟩
  rw[Lc];simpa using k2.back.append l2
 | .pk k0 t::l::ks,a,vs,Mg,LP,bx,c,h,hn,hb=>by
  obtain⟨v,vs',p1,p2,rfl,rfl,h1,h2⟩:=h;obtain⟨k1,k2,k3⟩:=d4 (c:=c) h1 hn.left;obtain⟨l1,l2,l3⟩:=gp (c:=c+p1.length) h2 hn.right hb;simp only[aw];rw[k3]
  refine⟨aX.2 ⟨k1,l1⟩,?_,by rw[l3,Lc];omega⟩
  rw[Lc];simpa using k2.back.append l2
 | .ln t::l::ks,a,vs,Mg,LP,bx,c,h,hn,hb=>by
  obtain⟨v,vs',p1,p2,rfl,rfl,h1,h2⟩:=h;obtain⟨k1,k2,k3⟩:=d4 (c:=c) h1 hn.left;obtain⟨l1,l2,l3⟩:=gp (c:=c+p1.length) h2 hn.right hb;simp only[aw];rw[k3]
  refine⟨aX.2 ⟨k1,l1⟩,?_,by rw[l3,Lc];omega⟩
  rw[Lc];simpa using k2.back.append l2
 | .nb t ow::l::ks,a,vs,Mg,LP,bx,c,h,hn,hb=>by
  obtain⟨v,vs',p1,p2,rfl,rfl,h1,h2⟩:=h;obtain⟨k1,k2,k3⟩:=d4 (c:=c) h1 hn.left;obtain⟨l1,l2,l3⟩:=gp (c:=c+p1.length) h2 hn.right hb;simp only[aw];rw[k3]
  refine⟨aX.2 ⟨k1,l1⟩,?_,by rw[l3,Lc];omega⟩
  rw[Lc];simpa using k2.back.append l2
 | .fn ks' r::l::ks,a,vs,Mg,LP,bx,c,h,hn,hb=>by
  obtain⟨v,vs',p1,p2,rfl,rfl,h1,h2⟩:=h;obtain⟨k1,k2,k3⟩:=d4 (c:=c) h1 hn.left;obtain⟨l1,l2,l3⟩:=gp (c:=c+p1.length) h2 hn.right hb;simp only[aw];rw[k3]
  refine⟨aX.2 ⟨k1,l1⟩,?_,by rw[l3,Lc];omega⟩
  rw[Lc];simpa using k2.back.append l2
theorem sw{Lj LU:Nat→Prop}:∀{ds:List (ND F)} {k:Nat} {vs:List Value} {LP:List Pl},(∀d∈ds,d.flat=true)→MH w Lj [] k ds vs LP→MH w LU [] k ds vs LP
 | [],k,vs,LP,_,h=>by cases vs<;>simp_all [MH]
 | d::ds,k,vs,LP,hf,h=>by
  cases vs with
  | nil=>simp[MH]at h
  | cons v vs=>
   simp only[MH,Mh,R3,if_false]at h ⊢
   exact⟨h.1.flat (hf d (by simp)),sw (λd hd=>hf d (by simp[hd])) h.2⟩
theorem xa{t:Ty}(hf:jG F t=true){l:List (ET F t)}:∀d∈cells F t l,d.flat=true:=by intro d hd;simp only[cells,List.mem_flatten,RA]at hd;obtain⟨_,⟨x,_,rfl⟩,hd⟩:=hd;exact qX hf x d hd
theorem yR{Lj LU:Nat→Prop}{t:Ty}{l:List (ET F t)}{pl:Pl}(hf:jG F t=true)(hm:t.Nz=false)(h:OD w Lj t l pl):OD w LU t l pl:=by
 rw[nW hm]at h ⊢
 cases pl with
 | none=>exact h
 | some q=>obtain⟨q1,q2,q3,cur,e,q4,q5,q6⟩:=h;exact⟨q1,q2,q3,cur,e,q4,q5,λk d z a b=>(q6 k d z a b).flat (xa hf d (Wx a))⟩
theorem qH{Lj LU:Nat→Prop}{ow:List Nat}:∀{ts:List Ty}{a:M7 F ts}{k:Nat}{vs:List Value} {LP:List Pl},uW F ow k ts=true→MH w Lj ow k (OW F ts a) vs LP→MH w LU ow k (OW F ts a) vs LP
 | [],a,k,vs,LP,_,h=>by cases vs<;>simp_all [OW,MH]
 | t::ts,a,k,vs,LP,hf,h=>by
  simp only[uW,Ng]at hf
  cases vs with
  | nil=>simp[OW,MH]at h
  | cons v vs=>
   simp only[OW,MH]at h ⊢
   cases t with
   | slice e=>
    simp only[Ng]at hf;rw[if_pos hf.1.1.1]at h ⊢;simp only[enc1]at h ⊢;obtain⟨pl,rest,k1,k2,k3,k4⟩:=h
    exact⟨pl,rest,k1,yR hf.1.1.2 (by simpa using hf.1.2) k2,k3,qH hf.2 k4⟩
   | st n=>simp at hf
   | int kk=>
    simp only[enc1]at h ⊢;split at h
    ·exact h.elim
    ·split at h
     ·exact h.elim
     ·rename_i h1 h2;rw[if_neg h1,if_neg h2];exact⟨h.1.flat rfl,qH hf.2 h.2⟩
   | bool=>
    simp only[enc1]at h ⊢;split at h
    ·exact h.elim
    ·split at h
     ·exact h.elim
     ·rename_i h1 h2;rw[if_neg h1,if_neg h2];exact⟨h.1.flat rfl,qH hf.2 h.2⟩
   | str=>
    simp only[enc1]at h ⊢;split at h
    ·exact h.elim
    ·split at h
     ·exact h.elim
     ·rename_i h1 h2;rw[if_neg h1,if_neg h2];exact⟨h.1.flat rfl,qH hf.2 h.2⟩
theorem yy{Lj LU:Nat→Prop}{k:Kd}(hf:k.M0 F=true){x:k.El F}{v:Value}{LP:List Pl}{Mg:List Pl}(h:Held P w Lj k x v LP Mg):Held P w LU k x v LP Mg:=by
 cases k with
 | box=>simp[Kd.M0]at hf
 | rp=>simp[Kd.M0]at hf
 | fn=>simp[Kd.M0]at hf
 | row=>simp[Kd.M0]at hf
 | TK=>simp[Kd.M0]at hf
 | pk=>simp[Kd.M0]at hf
 | ln=>simp[Kd.M0]at hf
 | nb=>simp[Kd.M0]at hf
 | cl=>simp[Kd.M0]at hf
 | v t ow=>
  obtain⟨h1,h2⟩:=h;refine⟨?_,h2⟩
  cases ow with
  | nil=>
   simp only[Kd.M0]at hf;unfold NC at h1 ⊢;split
   ·rename_i hs;rw[if_pos hs]at h1;obtain⟨vs,k1,k2⟩:=h1;exact⟨vs,k1,sw (qX hf x) k2⟩
   ·rename_i hs;rw[if_neg hs]at h1;exact sw (qX hf x) h1
  | cons y ow=>
   cases t with
   | slice t=>
    simp only[Kd.M0,Ng]at hf;unfold NC at h1 ⊢;simp only[Ty.OU,R3,if_false,LZ,MH,hf.1.1,if_true]at h1 ⊢;obtain⟨pl,rest,k1,k2,k3,k4⟩:=h1
    exact⟨pl,rest,k1,yR hf.1.2 (by simpa using hf.2) k2,k3,k4⟩
   | int=>simp[Kd.M0]at hf
   | bool=>simp[Kd.M0]at hf
   | str=>simp[Kd.M0]at hf
   | st n=>simp only[Kd.M0,Ng]at hf;unfold NC at h1 ⊢;simp only[Ty.OU,if_true]at h1 ⊢;obtain⟨vs,k1,k2⟩:=h1;exact⟨vs,k1,qH hf.2 k2⟩
theorem th{Lj LU:Nat→Prop}:∀{ks:List Kd}{a:TL F ks}{vs:List Value}{Mg:List Pl} {LP:List Pl},ks.all (Kd.M0 F)=true→eQ P w Lj ks a vs Mg LP→eQ P w LU ks a vs Mg LP
 | [],a,vs,Mg,LP,hf,h=>h
 | [.box t ow],a,vs,Mg,LP,hf,h=>by simp[Kd.M0]at hf
 | [.v t ow],a,vs,Mg,LP,hf,h=>by simp only[QeJ,List.all_nil,QgF]at hf;obtain⟨v,h1,h2,h3⟩:=h;exact⟨v,h1,h2,yy hf h3⟩
 | [.rp t],a,vs,Mg,LP,hf,h=>by simp[Kd.M0]at hf
 | [.fn t r],a,vs,Mg,LP,hf,h=>by simp[Kd.M0]at hf
 | [.TK t],a,vs,Mg,LP,hf,h=>by simp[Kd.M0]at hf
 | [.pk k0 t],a,vs,Mg,LP,hf,h=>by simp[Kd.M0]at hf
 | [.ln t],a,vs,Mg,LP,hf,h=>by simp[Kd.M0]at hf
 | [.nb t ow],a,vs,Mg,LP,hf,h=>by simp[Kd.M0]at hf
 | [.row t r],a,vs,Mg,LP,hf,h=>by simp[Kd.M0]at hf
 | [.cl f n],a,vs,Mg,LP,hf,h=>by simp[Kd.M0]at hf
 | .cl f n::l::ks,a,vs,Mg,LP,hf,h=>by simp[Kd.M0]at hf
 | .box t ow::l::ks,a,vs,Mg,LP,hf,h=>by simp[Kd.M0]at hf
 | .v t ow::l::ks,a,vs,Mg,LP,hf,h=>by
  simp only[QeJ,Ng]at hf;obtain⟨v,vs',p1,p2,h1,h2,h3,h4⟩:=h
  exact⟨v,vs',p1,p2,h1,h2,yy hf.1 h3,th (by simpa using hf.2) h4⟩
 | .rp t::l::ks,a,vs,Mg,LP,hf,h=>by simp[Kd.M0]at hf
 | .fn t r::l::ks,a,vs,Mg,LP,hf,h=>by simp[Kd.M0]at hf
 | .TK t::l::ks,a,vs,Mg,LP,hf,h=>by simp[Kd.M0]at hf
 | .pk k0 t::l::ks,a,vs,Mg,LP,hf,h=>by simp[Kd.M0]at hf
 | .ln t::l::ks,a,vs,Mg,LP,hf,h=>by simp[Kd.M0]at hf
 | .nb t ow::l::ks,a,vs,Mg,LP,hf,h=>by simp[Kd.M0]at hf
 | .row t r::l::ks,a,vs,Mg,LP,hf,h=>by simp[Kd.M0]at hf
end
set_option linter.unusedVariables false
set_option linter.unusedSimpArgs false
section
variable{F:Fam}{P:Program}{own:Ow}{g g1:G}{w:World}{m m1 mm:Nat→Option (Mi F)}{Γ : Ctx F}{o:Oper}{a:Act}{c:Nat}
theorem jE:∀{l:List Nat},eK l=true→l.Nodup
 | [],_=>QeB
 | x::l,h=>by
  simp only[eK,Ng,UJ]at h;refine Un.2 ⟨λhx=>?_,jE h.2⟩;rw[aN.2 hx]at h
  exact absurd h.1 (by simp)
theorem n9:∀{l r:List Nat},RV l r=true→∀x∈l,x∉r
 | [],r,_,x,hx=>by simp at hx
 | y::l,r,h,x,hx=>by
  simp only[RV,Ng,UJ]at h;rcases NH.1 hx with rfl | hx
  ·intro hr;rw[aN.2 hr]at h
   exact absurd h.1 (by simp)
  ·exact n9 h.2 x hx
theorem gz{id:Nat}:∀{l:List (Option Nat)},id∈Mx l↔some id∈l
 | []=>by simp[Mx]
 | some x::l=>by simp[Mx,gz]
 | none::l=>by simp[Mx,gz]
theorem G.blk_iff{g:G}{id b:Nat}{b0:Nat}{c:Nat×Nat×NS}(h:g.ids id=some (some (b0,c))):g.blk id b↔b∈b0::MP c.2.2:=by
 constructor
 ·rintro⟨b1,c1,h1,h2⟩;rw[h]at h1;cases h1;exact h2
 ·exactλhb=>⟨b0,c,h,hb⟩
theorem G.aaU{g:G}{id b:Nat}(h:g.ids id=none):¬ g.blk id b:=by rintro⟨b1,c1,h1,_⟩;rw[h]at h1;cases h1
theorem cC{b:Nat}:∀{os:List (Option Nat)},b∈Li (os.map (Mk g))↔∃id,some id∈os∧g.blk id b
 | []=>by simp[Li]
 | none::os=>by simp[Li,Mk,cC]
 | some i::os=>by
  simp only[Nr,NH,NI]
  cases hi:g.ids i with
  | none=>
   simp only[Mk,hi,Option.getD_none,Li,cC];constructor
   ·rintro⟨id,h,k⟩;exact⟨id,.inr h,k⟩
   ·rintro⟨id,rfl | h,k⟩
    ·exact(G.aaU hi k).elim
    ·exact⟨id,h,k⟩
  | some q=>
   cases q with
   | none=>
    simp only[Mk,hi,Wz,Li,cC];constructor
    ·rintro⟨id,h,k⟩;exact⟨id,.inr h,k⟩
    ·rintro⟨id,rfl | h,k⟩
     ·exact(G.Vp hi k).elim
     ·exact⟨id,h,k⟩
   | some q=>
    obtain⟨b',x⟩:=q;simp only[Mk,hi,Wz,Li];rw[← UH,N_,cC];constructor
    ·rintro(h | ⟨id,h,k⟩)
     ·exact⟨i,.inl rfl,(G.blk_iff hi).2 h⟩
     ·exact⟨id,.inr h,k⟩
    ·rintro⟨id,rfl | h,k⟩
     ·exact .inl ((G.blk_iff hi).1 k)
     ·exact .inr ⟨id,h,k⟩
theorem kz(hm:LQ own g w m):∀{os:List (Option Nat)},(Mx os).Nodup→(∀id,some id∈os→∃B,m id=some B∧B.owned=true)→(Li (os.map (Mk g))).Nodup
 | [],_,_=>by simp[Li]
 | none::os,h,k=>by
  simp only[Nr,Mk,Li]
  exact kz hm h (λid hid=>k id (by simp[hid]))
 | some i::os,h,k=>by
  simp only[Mx,Un]at h
  have ih:=kz hm h.2 (λid hid=>k id (by simp[hid]))
  simp only[Nr]
  cases hp:Mk g (some i)with
  | none=>simpa[Li]using ih
  | some q=>
   obtain⟨b,x⟩:=q
   have hi:g.ids i=some (some (b,x)):=by
    simp only[Mk]at hp
    cases hg:g.ids i with
    | none=>rw[hg]at hp;cases hp
    | some q=>rw[hg]at hp;simp only[Wz]at hp;subst hp;rfl
   obtain⟨B,k1,k2⟩:=k i (by simp)
   simp only[Li];rw[← UH,Xd];refine⟨?_,ih,?_⟩
   ·have hok:=hm.ok i B k1
    cases B with
    | box cs=>obtain⟨b',c',_,_,h1,_⟩:=hok;rw[hi]at h1;cases h1;simp[MP]
    | row t l=>rcases hok with⟨h1,_⟩ | ⟨b',cap,cur,e,h1,_⟩<;>(rw[hi]at h1;cases h1);simp[MP]
    | Nb t l=>obtain⟨pl,h1,h2⟩:=hok;rw[hi]at h1;cases h1;exact h2.2.2.2.2.1
    | Tf t l=>cases k2
    | Z8 cs=>cases k2
    | mp t l=>obtain⟨b',h1,_⟩:=hok;rw[hi]at h1;cases h1;simp[MP]
    | it ob=>obtain⟨b',h1,_⟩:=hok;rw[hi]at h1;cases h1;simp[MP]
    | Pv k n=>cases k2
    | Sq t l i ks=>obtain⟨pl,h1,h2⟩:=hok;rw[hi]at h1;cases h1;exact h2.2.2.2.2.1
    | NQ t l j=>obtain⟨pl,h1,h2⟩:=hok;rw[hi]at h1;cases h1;exact h2.2.2.2.2.1
   ·rintro b1 hb1 b2 hb2 rfl;obtain⟨id,h1,h2⟩:=cC.1 hb2
    obtain⟨B',k3,k4⟩:=k id (by simp[h1])
    have:=hm.S_ i id B B' b1 k1 k3 k2 k4 ((G.blk_iff hi).2 hb1) h2;subst this;exact h.1 (gz.2 h1)
theorem M_.named{id:Nat}{B:Mi F}(h:M_ g w id B):g.ids id≠none:=by
 intro hn
 cases B with
 | box cs=>obtain⟨b,c,_,_,h,_⟩:=h;rw[hn]at h;cases h
 | row t l=>rcases h with⟨h,_⟩ | ⟨_,_,_,_,h,_⟩<;>(rw[hn]at h;cases h)
 | Nb t l=>obtain⟨pl,h,_⟩:=h;rw[hn]at h;cases h
 | Tf t l=>rcases h with⟨h,_⟩ | ⟨_,_,_,h,_⟩<;>(rw[hn]at h;cases h)
 | Z8 cs=>obtain⟨_,_,h,_⟩:=h;rw[hn]at h;cases h
 | mp t l=>obtain⟨_,h,_⟩:=h;rw[hn]at h;cases h
 | it ob=>obtain⟨_,h,_⟩:=h;rw[hn]at h;cases h
 | Pv k n=>rcases h with⟨_,_,_,_,h,_⟩ | ⟨h,_⟩<;>(rw[hn]at h;cases h)
 | Sq t l i ks=>obtain⟨pl,h,_⟩:=h;rw[hn]at h;cases h
 | NQ t l j=>obtain⟨pl,h,_⟩:=h;rw[hn]at h;cases h
theorem wX{x:Nat}:∀{l:List Nat}{m:Nat→Option (Mi F)},x∈l→Ms m (nones l) x=none:=by
 intro l
 have key:∀(l:List Nat)(m:Nat→Option (Mi F)),m x=none→Ms m (nones l) x=none:=by
  intro l
  induction l with
  | nil=>intro m h;exact h
  | cons y l ih=>
   intro m h;simp only[nones,Nr,Ms];refine ih _ ?_
   split<;>first | rfl | exact h
 induction l with
 | nil=>intro m h;simp at h
 | cons y l ih=>
  intro m h;simp only[nones,Nr,Ms];rcases NH.1 h with rfl | h
  ·exact key l _ (by simp)
  ·exact ih h
theorem tU{x:Nat}{B:Mi F}:∀{bs:List (Nat×Mi F)} {m:Nat→Option (Mi F)},Ms m (blks bs) x=some B→(x,B)∈bs∨(x∉bs.map (·.1)∧m x=some B)
 | [],m,h=>.inr ⟨by simp,h⟩
 | (y,C)::bs,m,h=>by
  simp only[blks,Nr,Ms]at h;rcases tU (bs:=bs) h with h | ⟨h1,h2⟩
  ·exact .inl (by simp[h])
  ·by_cases hxy:y=x
   ·subst hxy;simp only[bJ,if_true,NI]at h2;subst h2
    exact .inl (by simp)
   ·rw[ar hxy]at h2;simp only[R3,if_false]at h2
    exact .inr ⟨by simp only[Nr,NH,not_or];exact⟨λe=>hxy e.symm,h1⟩,h2⟩
def G.back(g:G)(c:Nat)(LP:List Pl)(I:Nat→Prop):G:=⟨λx=>if c≤x∧x<c+LP.length then LP[x - c]? else g.ids x,I,g.len⟩
theorem u5{LP:List Pl}{I:Nat→Prop}:Po (g.back c LP I) c LP:=by
 intro j pl hj;have hlt:=(Lb.1 hj).1;simp only[G.back]
 rw[if_pos ⟨by omega,by omega⟩,QfJ]
 exact hj
theorem eF{LP:List Pl}{I:Nat→Prop}{x:Nat}(h:¬ (c≤x∧x<c+LP.length)):(g.back c LP I).ids x=g.ids x:=by simp only[G.back];rw[if_neg h]
theorem CH{ds:List (Dat F)}{vs:List Value}(h:MG P g w ds vs):Me P g w (WG ds) (Vd vs):=by
 match ds,vs,h with
 | [d],[v],h=>exact Ny h
 | [],[],h=>exact .Pt rfl (by simp)
 | d::e::ds,v::x::vs,h=>exact .Pt h.1 h.2
 | [],v::vs,h=>exact absurd h.1 (by simp)
 | [d],[],h=>exact absurd h.1 (by simp)
 | [d],v::x::vs,h=>exact absurd h.1 (by simp)
 | d::e::ds,[],h=>exact absurd h.1 (by simp)
 | d::e::ds,[v],h=>exact absurd h.1 (by simp)
theorem nA{bx:List Nat}{Mg:List Pl}(h:bx.map g.ids=Mg.map some){id:Nat}(hi:id∈bx):∃q∈Mg,g.ids id=some q:=by
 have:g.ids id∈Mg.map some:=by rw[← h];exact QdX hi
 obtain⟨q,h1,h2⟩:=RA.1 this;exact⟨q,h1,h2.symm⟩
theorem sQ{b b0:Nat}{q:Nat×Nat×NS}{LP:List Pl}(h:some (b0,q)∈LP)(hb:b∈b0::MP q.2.2):b∈Li LP:=by obtain⟨j,hj⟩:=Ye h;exact db.2 ⟨j,b0,q,hj,hb⟩
theorem sC(hm:LQ own g w m)(hm1:LQ own g1 w m1)(h1i:g1.ids=g.ids)(h1l:g1.len=g.len)(hall:∀b,w.heap.size≤b→own.o b)
  {os:List (Option Nat)} {bx:List Nat} {Mg:List Pl} {Ml:List Pl} {bs:List (Nat×Mi F)} {Ux LU I:Nat→Prop} {w':World} {YJ:List Pl} (aoW:YJ=os.map (Mk g))
  (hfr:∀k,k<Ml.length→g.ids (c+k)=none)
  (hos:∀id,some id∈os→∃B,m id=some B∧m1 id=some B∧B.owned=true) (hbx:∀id∈bx,some id∈os) (TV:bx.map g.ids=Mg.map some)
  (hp:Sy w Ux (Li YJ)) (h0:∀b,g1.Lj b→Ux b)
  (hsz:w.heap.size≤w'.heap.size) (RG:∀b,b<w.heap.size→b∉Li YJ→w'.heap[b]? = w.heap[b]?)
  (i1:∀b,g1.Lj b→I b) (i2:∀b,I b→LU b) (i3:∀b,I b→g1.Lj b∨b∈Li YJ∨w.heap.size≤b) (i4:∀b,LU b→b<w'.heap.size)
  (hp':Sy w' LU (Li Mg++Li Ml)) (hin:∀b∈Li Mg++Li Ml,b∈Li YJ∨w.heap.size≤b)
  (hbs:SG (g.back c Ml I) w' c Ml.length bx bs):LQ own (g.back c Ml I) w' (Ms m1 (nones (Mx os)++blks bs)):=by
 subst aoW
 have hno:∀{b:Nat},b∈Li (os.map (Mk g))→∃id B,some id∈os∧g.blk id b∧m id=some B∧m1 id=some B∧B.owned=true:=by intro b hb;obtain⟨id,h1,h2⟩:=cC.1 hb;obtain⟨B,k1,k2,k3⟩:=hos id h1;exact⟨id,B,h1,h2,k1,k2,k3⟩
 have hkeys:∀id,id∈bs.map (·.1)→(c≤id∧id<c+Ml.length)∨id∈bx:=by
  intro id hid;obtain⟨p,hp,rfl⟩:=RA.1 hid;obtain⟨_,_,⟨j,k1,k2⟩ | k⟩:=hbs p hp
  ·exact .inl ⟨by omega,by omega⟩
  ·exact .inr k
 have hout:∀{id:Nat},g.ids id≠none→¬ (c≤id∧id<c+Ml.length):=by
  intro id h hc
  exact h (by have:=hfr (id - c) (by omega);rwa [QeL hc.1]at this)
 have hsame:∀id,¬ (id∈Mx os∨(c≤id∧id<c+Ml.length))→∀B,Ms m1 (nones (Mx os)++blks bs) id=some B→m1 id=some B:=by
  intro id hid B hB;rw[d8]at hB
  ·exact hB
  ·intro hk;simp only[Uo,N_]at hk;rcases hk with hk | hk
   ·simp only[nones,List.map_map,RA,Function.comp]at hk;obtain⟨x,h1,h2⟩:=hk;subst h2;exact hid (.inl h1)
   ·have:id∈bs.map (·.1):=by simpa[blks,Function.comp_def]using hk
    rcases hkeys id this with h | h
    ·exact hid (.inr h)
    ·exact hid (.inl (gz.2 (hbx id h)))
 have hnotin:∀{id:Nat}{B:Mi F}{b:Nat},id∉Mx os→m1 id=some B→B.owned=true→g.blk id b→b∉Li (os.map (Mk g))∧b<w.heap.size:=by
  intro id B b hid hB ho hb
  have hb1:g1.blk id b:=by obtain⟨b0,q,hq,hbb⟩:=hb;exact⟨b0,q,by rw[h1i];exact hq,hbb⟩
  refine⟨λhin=>?_,(hm1.ok id B hB).place hm1.Lj (Mi.PV ho) hb1⟩;obtain⟨id',B',k1,k2,k3,k4,k5⟩:=hno hin
  have hb2:g1.blk id' b:=by obtain⟨b0,q,hq,hbb⟩:=k2;exact⟨b0,q,by rw[h1i];exact hq,hbb⟩
  have:=hm1.S_ id id' B B' b hB k4 ho k5 hb1 hb2;subst this;exact hid (gz.2 k1)
 have hblk:∀{id b:Nat},¬ (c≤id∧id<c+Ml.length)→(g.back c Ml I).blk id b→g.blk id b:=by rintro id b h ⟨b0,q,hq,hbb⟩;rw[eF h]at hq;exact⟨b0,q,hq,hbb⟩
 refine hm1.Pd (S:=λid=>id∈Mx os∨(c≤id∧id<c+Ml.length)) ⟨?_,i1,?_,λb hb=>(show g.len b by rw[← h1l];exact hb),λb hb=>RG b (hm1.len b hb).2 (λhin=>by obtain⟨id,B,_,q2,q3,_,q5⟩:=hno hin;exact(hm1.len b hb).1 (hm.own id B b q3 q5 q2).1)⟩ hsame ?_ ?_ ?_ (λb hb=>i4 b (i2 b hb)) ?_ (λb hb=>⟨(hm.len b hb).1,UK (hm.len b hb).2 hsz⟩)
 ·intro id r hr;rw[h1i]at hr
  rw[eF (hout (by rw[hr];simp))]
  exact hr
 ·intro b hb;exact RG b (hm1.Lj b hb) (λhin=>hp.Lj b hin (h0 b hb))
 ·intro id hid;rw[eF (λh=>hid (.inr h)),h1i]
 ·intro id B b hid hB ho hb
  have hb':g.blk id b:=by obtain⟨b0,q,hq,hbb⟩:=hb;exact⟨b0,q,by rw[← h1i];exact hq,hbb⟩
  obtain⟨k1,k2⟩:=hnotin (λh=>hid (.inl h)) hB ho hb';refine⟨RG b k2 k1,λhI=>?_⟩;rcases i3 b hI with h | h | h
  ·exact(hm1.own id B b hB ho hb).2 h
  ·exact k1 h
  ·omega
 ·intro id B hid hB
  have hmem:(id,B)∈bs:=by
   rw[il]at hB;rcases tU hB with h | ⟨h1,h2⟩
   ·exact h
   ·exfalso;by_cases hio:id∈Mx os
    ·rw[wX hio]at h2;cases h2
    ·rcases hid with h | h
     ·exact hio h
     ·rw[d8]at h2
      ·refine(hm1.ok id B h2).named ?_;rw[h1i]
       have:=hfr (id - c) (by omega)
       rwa [QeL h.1]at this
      ·simpa[nones,Function.comp_def]using hio
  obtain⟨ho,hok,hwh⟩:=hbs _ hmem;refine⟨hok,λb _ hb=>?_⟩
  have loc:∀{x:Nat},((c≤x∧x<c+Ml.length)∨x∈bx)→(g.back c Ml I).blk x b→((c≤x∧x<c+Ml.length)∧∃b0 q,Ml[x - c]? = some (some (b0,q))∧b∈b0::MP q.2.2)∨(x∈bx∧g.blk x b∧b∈Li Mg):=by
   intro x hx hxb;by_cases hr:c≤x∧x<c+Ml.length
   ·obtain⟨b0,q,hq,hbb⟩:=hxb;simp only[G.back]at hq;rw[if_pos hr]at hq;exact .inl ⟨hr,b0,q,hq,hbb⟩
   ·have hxx:=hx.resolve_left hr;have hb':=hblk hr hxb;obtain⟨q,hq1,hq2⟩:=nA TV hxx;obtain⟨b0,q',hq',hbb⟩:=hb';rw[hq2]at hq';cases hq';exact .inr ⟨hxx,⟨b0,_,hq2,hbb⟩,sQ hq1 hbb⟩
  have afK:(c≤id∧id<c+Ml.length)∨id∈bx:=by
   rcases hwh with⟨j,k1,k2⟩ | k
   ·exact .inl ⟨by simp only at k1;omega,by simp only at k1;omega⟩
   ·exact .inr k
  have hL:b∈Li Mg++Li Ml:=by
   rcases loc afK hb with⟨_,b0,q,hq,hbb⟩ | ⟨_,_,h⟩
   ·exact QcS _ (db.2 ⟨_,b0,q,hq,hbb⟩)
   ·exact QcW _ h
  refine⟨?_,λhI=>hp'.Lj b hL (i2 b hI),?_⟩
  ·rcases hin b hL with h | h
   ·obtain⟨id',B',k1,k2,k3,k4,k5⟩:=hno h;exact(hm.own id' B' b k3 k5 k2).1
   ·exact hall b h
  ·intro id' B' hB' ho' hb';by_cases hs:id'∈Mx os∨(c≤id'∧id'<c+Ml.length)
   ·have hmem':(c≤id'∧id'<c+Ml.length)∨id'∈bx:=by
     rw[il]at hB';rcases tU hB' with h | ⟨h1,h2⟩
     ·exact hkeys id' (RA.2 ⟨_,h,rfl⟩)
     ·by_cases hio:id'∈Mx os
      ·rw[wX hio]at h2;cases h2
      ·exact .inl (hs.resolve_left hio)
    have hnd:=Xd.1 hp'.nodup;rcases loc afK hb with⟨r1,c1,q1,e1,d1⟩ | ⟨r1,e1,f1⟩
    ·rcases loc hmem' hb' with⟨r2,c2,q2,e2,d2⟩ | ⟨r2,e2,f2⟩
     ·have:=nh hnd.2.1 e1 d1 e2 d2;omega
     ·exact absurd rfl (hnd.2.2 b f2 b (db.2 ⟨_,c1,q1,e1,d1⟩))
    ·rcases loc hmem' hb' with⟨r2,c2,q2,e2,d2⟩ | ⟨r2,e2,f2⟩
     ·exact absurd rfl (hnd.2.2 b f1 b (db.2 ⟨_,c2,q2,e2,d2⟩))
     ·obtain⟨B1,k1,_,k2⟩:=hos id (hbx id r1);obtain⟨B2,l1,_,l2⟩:=hos id' (hbx id' r2);exact(hm.S_ id id' B1 B2 b k1 l1 k2 l2 e1 e2).symm
   ·exfalso;have hB0:=hsame id' hs B' hB';obtain⟨k1,k2⟩:=hnotin (λh=>hs (.inl h)) hB0 ho' (hblk (λh=>hs (.inr h)) hb');rcases hin b hL with h | h
    ·exact k1 h
    ·omega
 ·intro b hI;rcases i3 b hI with h | h | h
  ·exact hm1.io b h
  ·obtain⟨id',B',k1,k2,k3,k4,k5⟩:=hno h;exact .inr (hm.own id' B' b k3 k5 k2).1
  ·exact .inr (hall b h)
def G.Vz(c:Nat)(LP:List Pl)(I:Nat→Prop):G:=⟨λx=>if c≤x then LP[x - c]? else none,I,λ_=>False⟩
theorem wl{LP:List Pl}{I:Nat→Prop}:Po (G.Vz c LP I) c LP:=by
 intro j pl hj;simp only[G.Vz]
 rw[if_pos (by omega),QfJ]
 exact hj
theorem Bn{I:Nat→Prop}{ow:List Nat}{ds:List (ND F)}{k c:Nat}{vs:List Value}{LP:List Pl}(h:MH w I ow k ds vs LP):(OT ow k c ds).2.2=c+LP.length:=
 (ni (g:=G.Vz c LP I) h wl).2.2.2.1
theorem d_{I:Nat→Prop}{k:Kd}{x:k.El F}{v:Value}{LP:List Pl}{Mg:List Pl}(h:Held P w I k x v LP Mg):(O8 k x c).2.2=c+LP.length:=
 (d4 (g:=G.Vz c LP I) h wl).2.2
theorem eG{I:Nat→Prop}:∀{ks:List Kd}{a:TL F ks}{vs:List Value}{Mg:List Pl} {LP:List Pl} {bx:List Nat} {c:Nat},eQ P w I ks a vs Mg LP→bx.length=Mg.length→(aw ks a bx c).2.2=c+LP.length
 | [],a,vs,Mg,LP,bx,c,h,hb=>by obtain⟨rfl,rfl,rfl⟩:=h;rfl
 | [.box t ow],a,vs,Mg,LP,bx,c,h,hb=>by
  obtain⟨b,rfl,rfl,arr,e,h1,h2⟩:=h
  match bx,hb with
  | i::bx,hb=>simp only[aw];exact Bn h2
 | [.row t arr],a,vs,Mg,LP,bx,c,h,hb=>by
  obtain⟨pl,rfl,rfl,_,rfl⟩:=h
  match bx,hb with
  | i::bx,hb=>rfl
 | .row t arr::l::ks,a,vs,Mg,LP,bx,c,h,hb=>by
  obtain⟨pl,Rx,rfl,_,h2⟩:=h
  match bx,hb with
  | i::bx,hb=>
   simp only[aw]
   rw[eG h2 (by simpa using hb)]
 | [.v t ow],a,vs,Mg,LP,bx,c,h,hb=>by obtain⟨v,rfl,rfl,h⟩:=h;simp only[aw];exact d_ h
 | [.cl f n],a,vs,Mg,LP,bx,c,h,hb=>by obtain⟨v,rfl,rfl,h⟩:=h;exact h.elim
 | .cl f n::l::ks,a,vs,Mg,LP,bx,c,h,hb=>by obtain⟨v,vs',p1,p2,rfl,rfl,h1,h2⟩:=h;exact h1.elim
 | [.rp t],a,vs,Mg,LP,bx,c,h,hb=>by obtain⟨v,rfl,rfl,h⟩:=h;simp only[aw];exact d_ h
 | [.TK t],a,vs,Mg,LP,bx,c,h,hb=>by obtain⟨v,rfl,rfl,h⟩:=h;simp only[aw];exact d_ h
 | [.pk k0 t],a,vs,Mg,LP,bx,c,h,hb=>by obtain⟨v,rfl,rfl,h⟩:=h;simp only[aw];exact d_ h
 | [.ln t],a,vs,Mg,LP,bx,c,h,hb=>by obtain⟨v,rfl,rfl,h⟩:=h;simp only[aw];exact d_ h
 | [.nb t ow],a,vs,Mg,LP,bx,c,h,hb=>by obtain⟨v,rfl,rfl,h⟩:=h;simp only[aw];exact d_ h
 | [.fn ks r],a,vs,Mg,LP,bx,c,h,hb=>by obtain⟨v,rfl,rfl,h⟩:=h;simp only[aw];exact d_ h
 | .box t ow::l::ks,a,vs,Mg,LP,bx,c,h,hb=>by
  obtain⟨b,Rx,p1,p2,rfl,rfl,⟨arr,e,h0,h1⟩,h2⟩:=h
  match bx,hb with
  | i::bx,hb=>
   simp only[aw]
   rw[Bn h1,eG h2 (by simpa using hb),Lc];omega
 | .v t ow::l::ks,a,vs,Mg,LP,bx,c,h,hb=>by obtain⟨v,vs',p1,p2,rfl,rfl,h1,h2⟩:=h;simp only[aw];rw[d_ h1,eG h2 hb,Lc];omega
 | .rp t::l::ks,a,vs,Mg,LP,bx,c,h,hb=>by obtain⟨v,vs',p1,p2,rfl,rfl,h1,h2⟩:=h;simp only[aw];rw[d_ h1,eG h2 hb,Lc];omega
 | .TK t::l::ks,a,vs,Mg,LP,bx,c,h,hb=>by obtain⟨v,vs',p1,p2,rfl,rfl,h1,h2⟩:=h;simp only[aw];rw[d_ h1,eG h2 hb,Lc];omega
 | .pk k0 t::l::ks,a,vs,Mg,LP,bx,c,h,hb=>by obtain⟨v,vs',p1,p2,rfl,rfl,h1,h2⟩:=h;simp only[aw];rw[d_ h1,eG h2 hb,Lc];omega
 | .ln t::l::ks,a,vs,Mg,LP,bx,c,h,hb=>by obtain⟨v,vs',p1,p2,rfl,rfl,h1,h2⟩:=h;simp only[aw];rw[d_ h1,eG h2 hb,Lc];omega
 | .nb t ow::l::ks,a,vs,Mg,LP,bx,c,h,hb=>by obtain⟨v,vs',p1,p2,rfl,rfl,h1,h2⟩:=h;simp only[aw];rw[d_ h1,eG h2 hb,Lc];omega
 | .fn ks' r::l::ks,a,vs,Mg,LP,bx,c,h,hb=>by obtain⟨v,vs',p1,p2,rfl,rfl,h1,h2⟩:=h;simp only[aw];rw[d_ h1,eG h2 hb,Lc];omega
theorem yu(hm:LQ own g w m)(hm1:LQ own g1 w m1)(h1i:g1.ids=g.ids)(h1l:g1.len=g.len)(hgi:∀b,g.Lj b→g1.Lj b)(hall:∀b,w.heap.size≤b→own.o b){u:Nat→Bool}(hd:∀id,u id=false→g.ids id=none)
  {os:List (Option Nat)} {bx:List Nat} {Mg:List Pl} {Ml:List Pl} {Ux LU I:Nat→Prop} {w':World} {Rt:List Value} {ks:List Kd} {r:TL F ks}
  (hfr:∀k,k<(aw ks r bx c).2.2 - c→u (c+k)=false)
  (hos:∀id,some id∈os→∃B,m id=some B∧m1 id=some B∧B.owned=true) (hbx:∀id∈bx,some id∈os) (TV:bx.map g.ids=Mg.map some)
  (hp:Sy w Ux (Li (os.map (Mk g)))) (h0:∀b,g1.Lj b→Ux b)
  (e1:w'.os=w.os) (e2:w'.tape=w.tape) (e3:w'.output=w.output) (e4:w.drawn≤w'.drawn)
  (hsz:w.heap.size≤w'.heap.size) (RG:∀b,b<w.heap.size→b∉Li (os.map (Mk g))→w'.heap[b]? = w.heap[b]?)
  (i1:∀b,g1.Lj b→I b) (i2:∀b,I b→LU b) (i3:∀b,I b→g1.Lj b∨b∈Li (os.map (Mk g))∨w.heap.size≤b) (i4:∀b,LU b→b<w'.heap.size)
  (hp':Sy w' LU (Li Mg++Li Ml)) (hin:∀b∈Li Mg++Li Ml,b∈Li (os.map (Mk g))∨w.heap.size≤b)
  (hout:eQ P w' I ks r Rt Mg Ml) :
  ∃g',Me P g' w' (WG (aw ks r bx c).1) (Vd Rt)∧LQ own g' w' (Ms m1 (nones (Mx os)++blks (aw ks r bx c).2.1))∧Stp m g w g' w'∧∀id,u id=false→(id<c∨c+((aw ks r bx c).2.2 - c)≤id)→g'.ids id=none:=by
 have hlen:bx.length=Mg.length:=by simpa using congrArg List.length TV
 have hcnt:=eG (c:=c) hout hlen
 have WQ:∀k,k<Ml.length→g.ids (c+k)=none:=λk hk=>hd _ (hfr k (by rw[hcnt];omega))
 have hnot:∀{id:Nat},g.ids id≠none→¬ (c≤id∧id<c+Ml.length):=by
  intro id h hc
  exact h (by have:=WQ (id - c) (by omega);rwa [QeL hc.1]at this)
 have ZN:bx.map (g.back c Ml I).ids=Mg.map some:=by
  rw[← TV];refine QdG λid hid=>?_;obtain⟨q,_,hq⟩:=nA TV hid
  exact eF (hnot (by rw[hq];simp))
 obtain⟨k1,k2,k3⟩:=gp (g:=g.back c Ml I) (c:=c) (bx:=bx) hout u5 ZN
 refine⟨g.back c Ml I,CH k1,sC hm hm1 h1i h1l hall rfl WQ hos hbx TV hp h0 hsz RG i1 i2 i3 i4 hp' hin k2,⟨⟨?_,λb hb=>i1 b (hgi b hb),?_,λ_ h=>h,λb hb=>RG b (hm.len b hb).2 (λhin=>by obtain⟨id,h1,h2⟩:=cC.1 hin;obtain⟨B,l1,_,l2⟩:=hos id h1;exact(hm.len b hb).1 (hm.own id B b l1 l2 h2).1)⟩,e1,e2,e3,hsz,?_,e4⟩,?_⟩
 ·intro id q hq
  rw[eF (hnot (by rw[hq];simp))]
  exact hq
 ·intro b hb;exact RG b (hm.Lj b hb) (λhin=>hp.Lj b hin (h0 b (hgi b hb)))
 ·intro b hb hno;refine RG b hb (λhin=>?_);obtain⟨id,h1,h2⟩:=cC.1 hin;obtain⟨B,l1,_,l2⟩:=hos id h1;exact hno id B l1 l2 h2
 ·intro id hu hw
  rw[eF (by rw[hcnt]at hw;omega)]
  exact hd id hu
theorem Do(hΓ : MN P Γ)(hm:LQ own g w m)(hle:P7 mm m){u:Nat→Bool}(hd:∀id,u id=false→g.ids id=none)(hall:∀b,w.heap.size≤b→own.o b)
  {f:FuncId} {args:List (Dat F)} {vs:List Value} (hr:MG P g w args vs) {sp:Spec F} (hsp:look Γ f=some sp) {p:Pk (HL F sp.ks)} (hp:mf Γ mm sp.ks (cond ((outs sp).all (Kd.M0 F)) (args.map VE) args)=some p)
  (hnd:eK (Mx p.os)=true) (hdj:RV (Mx p.os) p.fz=true) {r:TL F (outs sp)} (hD:sp.D p.x=some r)
  (hfr:∀k,k<(aw (outs sp) r p.bx c).2.2 - c→u (c+k)=false) (hrun:(execOp a.eval o).run P w = .ok (.enter f ⟨vs⟩) w) :
  PZ P own m u g w o a c { val:=WG (aw (outs sp) r p.bx c).1,mw:=(if(outs sp).all (Kd.M0 F)then[]else Ww mm p.fz)++nones (Mx p.os)++blks (aw (outs sp) r p.bx c).2.1,nu:=(aw (outs sp) r p.bx c).2.2 - c }:=by
 have pre:∀{adh:Ow}{g2:G}(hm2:LQ adh g2 w m)(Ob:g2.ids=g.ids),MG P g2 w (cond ((outs sp).all (Kd.M0 F)) (args.map VE) args) vs→∃Mg,dF P w (g2.Rl p.fz).Lj sp.ks p.x vs (p.os.map (Mk g)) Mg∧p.bx.map g.ids=Mg.map some∧(∀id∈p.bx,some id∈p.os)∧
   (∀id,some id∈p.os→∃B,m id=some B∧B.owned=true)∧LQ adh (g2.Rl p.fz) w (Ms m (Ww mm p.fz))∧(∀id,some id∈p.os→∃B,m id=some B∧Ms m (Ww mm p.fz) id=some B∧B.owned=true)∧Sy w (g2.Rl p.fz).Lj (Li (p.os.map (Mk g))):=by
  intro adh g2 hm2 Ob hr2;have hfz:TT g2 p.fz (g2.Rl p.fz).Lj:=⟨λ_ h=>.inl h,λid hid b hb=>.inr ⟨id,hid,hb⟩⟩;obtain⟨Mg,k1,k2,k3,k4,k5⟩:=pJ hΓ hm2 hle hp hfz hr2
  have hown:∀id,some id∈p.os→∃B,m id=some B∧B.owned=true:=λid hid=>by obtain⟨B,h1,h2⟩:=k4 id hid;exact⟨B,hle _ _ h1,h2⟩
  have Uz:=nK hm2 hle k3
  have hown1:∀id,some id∈p.os→∃B,m id=some B∧Ms m (Ww mm p.fz) id=some B∧B.owned=true:=λid hid=>by
   obtain⟨B,h1,h2⟩:=hown id hid
   exact⟨B,h1,by rw[lE,if_neg (n9 hdj id (gz.2 hid))];exact h1,h2⟩
  have hpo:Mk g2=Mk g:=by
   funext o
   cases o with
   | none=>rfl
   | some i=>simp only[Mk,Ob]
  have hbk:∀id b,g2.blk id b↔g.blk id b:=λid b=>by unfold G.blk;rw[Ob]
  rw[hpo]at k1;rw[Ob]at k2;refine⟨Mg,k1,k2,k5,hown,Uz,hown1,kz hm (jE hnd) hown,?_,?_⟩
  ·intro b hb hi;obtain⟨id,h1,h2⟩:=cC.1 hb;obtain⟨B,_,h3,h4⟩:=hown1 id h1;exact(Uz.own id B b h3 h4 ((hbk id b).2 h2)).2 hi
  ·intro b hb;obtain⟨id,h1,h2⟩:=cC.1 hb;obtain⟨B,h3,h4⟩:=hown id h1;exact(hm.ok id B h3).place hm.Lj (Mi.PV h4) h2
 obtain⟨hent,hfn⟩:=hΓ f sp hsp;intro next Q hn;unfold Oper.wp;rw[hrun]
 cases hfl:(outs sp).all (Kd.M0 F)with
 | true=>
  rw[hfl]at pre;obtain⟨Mg,k1,k2,k5,hown,Uz,hown1,hpl⟩:=pre hm.lf rfl (yp hr);refine(hfn p.x r hD _ w vs _ Mg k1 hpl Uz.Lj).mono ?_;rintro e w' ⟨Rt,LU,Ml,rfl,e1,e2,e3,edr,e4,e5,e6,e7,e8,e9,e10,e11⟩
  obtain⟨g',q1,q2,q3,q4⟩:=yu (I:=g.Lj) hm hm rfl rfl (λ_ h=>h) hall hd hfr (λid hid=>by obtain⟨B,h1,h2⟩:=hown id hid;exact⟨B,h1,h1,h2⟩) k5 k2 hpl (λb h=>.inl (.inl h)) e1 e2 e3 edr e4 e5
   (λ_ h=>h) (λb h=>e6 b (.inl (.inl h))) (λb h=>.inl h) e8 e10 e11 (th hfl e9)
  refine hn _ w' g' q1 ?_ q3 q4;simpa[hfl]using q2
 | false=>
  rw[hfl]at pre;obtain⟨Mg,k1,k2,k5,hown,Uz,hown1,hpl⟩:=pre hm rfl hr;refine(hfn p.x r hD _ w vs _ Mg k1 hpl Uz.Lj).mono ?_;rintro e w' ⟨Rt,LU,Ml,rfl,e1,e2,e3,edr,e4,e5,e6,e7,e8,e9,e10,e11⟩;obtain⟨g',q1,q2,q3,q4⟩:=yu (I:=LU) hm Uz rfl rfl (λb h=>.inl h) hall hd hfr hown1 k5 k2 hpl (λb h=>h) e1 e2 e3 edr e4 e5
   e6 (λb h=>h) e7 e8 e10 e11 e9
  refine hn _ w' g' q1 ?_ q3 q4;simp only[hfl,R3,if_false,PS];rw[il];exact q2
theorem C0{g:G}{I:Nat→Prop}{ks:List Nat}{c:MK F}{v:Value}(h:Mj g w c v):Mj (F:=F) ⟨g.ids,I,g.len⟩ w (fgC ks c) v:=by
 cases c with
 | im d=>
  simp only[fgC]
  cases hd:d.flat with
  | true=>cases h with | im h=>exact .im (h.flat hd)
  | false=>exact .one (h.oneCell (by simp))
 | Nl id=>
  simp only[fgC]
  cases hk:Mh id ks with
  | false=>exact .one (h.oneCell (by simp))
  | true=>
   cases h with
   | PN p h=>exact .PN p h
   | Nl h hl hm=>exact .Nl h hl hm
 | any=>exact .any
 | _=>exact .one (h.oneCell (by simp))
theorem JB{g:G}{I:Nat→Prop}{ks:List Nat}{d:Dat F}{v:Value}(h:Me P g w d v):Me P ⟨g.ids,I,g.len⟩ w (fgD ks d) v:=by
 cases h with
 | c h=>exact .c (C0 h)
 | agg hl h=>
  refine .agg (by rw[PI];exact hl) λk c x a b=>?_
  rw[Rf]at a;obtain⟨c0,h0,rfl⟩:=Wp.1 a;exact C0 (h k c0 x h0 b)
 | _=>exact .c .any
theorem Gy{g:G}{I:Nat→Prop}{ks:List Nat}{ds:List (Dat F)}{vs:List Value}(h:MG P g w ds vs):MG P ⟨g.ids,I,g.len⟩ w (ds.map (fgD ks)) vs:=by
 refine⟨by rw[PI];exact h.1,λk d x a b=>?_⟩
 rw[Rf]at a;obtain⟨c0,h0,rfl⟩:=Wp.1 a;exact JB (h.2 k c0 x h0 b)
theorem Hj{g:G}{I:Nat→Prop}{c n:Nat}{bx:List Nat}{bs:List (Nat×Mi F)}(h:SG g w c n bx bs):SG ⟨g.ids,I,g.len⟩ w c n bx (bs.filter YM):=by
 intro p hp;obtain⟨h1,h2⟩:=Ta.1 hp;obtain⟨k1,k2,k3⟩:=h p h1;refine⟨k1,?_,k3⟩;obtain⟨id,B⟩:=p
 cases B with
 | row t l=>
  simp only[YM]at h2;rcases k2 with k2 | ⟨b,cap,cur,e,q1,q2,q3,q4,q5,q6⟩
  ·exact .inl k2
  ·exact .inr ⟨b,cap,cur,e,q1,q2,q3,q4,q5,λk d x a b=>(q6 k d x a b).flat (xa h2 d (Wx a))⟩
 | _=>simp[YM]at h2
theorem Ds(hm:LQ own g w m)(hall:∀b,w.heap.size≤b→own.o b){u:Nat→Bool}(hd:∀id,u id=false→g.ids id=none)
  {os:List (Option Nat)} {bx:List Nat} {Mg:List Pl} {Ml:List Pl} {Ux LU:Nat→Prop} {w':World} {Rt:List Value} {ks:List Kd} {r:TL F ks}
  (hfr:∀k,k<(aw ks r bx c).2.2 - c→u (c+k)=false)
  (hos:∀id,some id∈os→∃B,m id=some B∧B.owned=true) (hbx:∀id∈bx,some id∈os) (TV:bx.map g.ids=Mg.map some)
  (hp:Sy w Ux (Li (os.map (Mk g)))) (h0:∀b,g.Lj b→Ux b)
  (e1:w'.os=w.os) (e2:w'.tape=w.tape) (e3:w'.output=w.output) (e4:w.drawn≤w'.drawn)
  (hsz:w.heap.size≤w'.heap.size) (RG:∀b,b<w.heap.size→b∉Li (os.map (Mk g))→w'.heap[b]? = w.heap[b]?)
  (i2:∀b,g.Lj b→LU b) (i4:∀b,LU b→b<w'.heap.size)
  (hp':Sy w' LU (Li Mg++Li Ml)) (hin:∀b∈Li Mg++Li Ml,b∈Li (os.map (Mk g))∨w.heap.size≤b)
  (hout:eQ P w' LU ks r Rt Mg Ml) :
  ∃g',Me P g' w' (WG ((aw ks r bx c).1.map (fgD (((aw ks r bx c).2.1.filter YM).map (·.1))))) (Vd Rt)∧LQ own g' w' (Ms m (nones (Mx os)++blks ((aw ks r bx c).2.1.filter YM)))∧Stp m g w g' w'∧∀id,u id=false→(id<c∨c+((aw ks r bx c).2.2 - c)≤id)→g'.ids id=none:=by
 have hlen:bx.length=Mg.length:=by simpa using congrArg List.length TV
 have hcnt:=eG (c:=c) hout hlen
 have WQ:∀k,k<Ml.length→g.ids (c+k)=none:=λk hk=>hd _ (hfr k (by rw[hcnt];omega))
 have hnot:∀{id:Nat},g.ids id≠none→¬ (c≤id∧id<c+Ml.length):=by
  intro id h hc
  exact h (by have:=WQ (id - c) (by omega);rwa [QeL hc.1]at this)
 have ZN:bx.map (g.back c Ml LU).ids=Mg.map some:=by
  rw[← TV];refine QdG λid hid=>?_;obtain⟨q,_,hq⟩:=nA TV hid
  exact eF (hnot (by rw[hq];simp))
 obtain⟨k1,k2,k3⟩:=gp (g:=g.back c Ml LU) (c:=c) (bx:=bx) hout u5 ZN;have k1':MG P (g.back c Ml g.Lj) w' ((aw ks r bx c).1.map (fgD (((aw ks r bx c).2.1.filter YM).map (·.1)))) Rt:=Gy k1;have k2':SG (g.back c Ml g.Lj) w' c Ml.length bx ((aw ks r bx c).2.1.filter YM):=Hj k2
 refine⟨g.back c Ml g.Lj,CH k1',sC hm hm rfl rfl hall rfl WQ (λid hid=>by obtain⟨B,h1,h2⟩:=hos id hid;exact⟨B,h1,h1,h2⟩) hbx TV hp h0 hsz RG (λ_ h=>h) i2 (λb h=>.inl h) i4 hp' hin k2',⟨⟨?_,λb hb=>hb,?_,λ_ h=>h,λb hb=>RG b (hm.len b hb).2 (λhin=>by obtain⟨id,h1,h2⟩:=cC.1 hin;obtain⟨B,l1,l2⟩:=hos id h1;exact(hm.len b hb).1 (hm.own id B b l1 l2 h2).1)⟩,e1,e2,e3,hsz,?_,e4⟩,?_⟩
 ·intro id q hq
  rw[eF (hnot (by rw[hq];simp))]
  exact hq
 ·intro b hb;exact RG b (hm.Lj b hb) (λhin=>hp.Lj b hin (h0 b hb))
 ·intro b hb hno;refine RG b hb (λhin=>?_);obtain⟨id,h1,h2⟩:=cC.1 hin;obtain⟨B,l1,l2⟩:=hos id h1;exact hno id B l1 l2 h2
 ·intro id hu hw
  rw[eF (by rw[hcnt]at hw;omega)]
  exact hd id hu
theorem DX(hΓ : MN P Γ)(hm:LQ own g w m)(hle:P7 mm m){u:Nat→Bool}(hd:∀id,u id=false→g.ids id=none)(hall:∀b,w.heap.size≤b→own.o b)
  {f:FuncId} {args:List (Dat F)} {vs:List Value} (hr:MG P g w args vs) {sp:Spec F} (hsp:look Γ f=some sp) {p:Pk (HL F sp.ks)} (hp:mf Γ mm sp.ks (args.map VE)=some p)
  (hnd:eK (Mx p.os)=true) (hdj:RV (Mx p.os) p.fz=true) {r:TL F (outs sp)} (hD:sp.D p.x=some r)
  (hfr:∀k,k<(aw (outs sp) r p.bx c).2.2 - c→u (c+k)=false) (hrun:(execOp a.eval o).run P w = .ok (.enter f ⟨vs⟩) w) :
  PZ P own m u g w o a c { val:=WG ((aw (outs sp) r p.bx c).1.map (fgD (((aw (outs sp) r p.bx c).2.1.filter YM).map (·.1)))),mw:=nones (Mx p.os)++blks ((aw (outs sp) r p.bx c).2.1.filter YM),nu:=(aw (outs sp) r p.bx c).2.2 - c }:=by
 have hm2:=hm.lf;have hr2:=yp hr;have hfz:TT g.lf p.fz (g.lf.Rl p.fz).Lj:=⟨λ_ h=>.inl h,λid hid b hb=>.inr ⟨id,hid,hb⟩⟩;obtain⟨Mg,k1,k2,k3,k4,k5⟩:=pJ hΓ hm2 hle hp hfz hr2
 have hown:∀id,some id∈p.os→∃B,m id=some B∧B.owned=true:=λid hid=>by obtain⟨B,h1,h2⟩:=k4 id hid;exact⟨B,hle _ _ h1,h2⟩
 have Uz:=nK hm2 hle k3
 have hpo:Mk g.lf=Mk g:=by
  funext o
  cases o with
  | none=>rfl
  | some i=>rfl
 rw[hpo]at k1
 have hpl:Sy w (g.lf.Rl p.fz).Lj (Li (p.os.map (Mk g))):=by
  refine⟨kz hm (jE hnd) hown,?_,?_⟩
  ·intro b hb hi;obtain⟨id,h1,h2⟩:=cC.1 hb;obtain⟨B,h3,h4⟩:=hown id h1
   have h3':Ms m (Ww mm p.fz) id=some B:=by rw[lE,if_neg (n9 hdj id (gz.2 h1))];exact h3
   exact(Uz.own id B b h3' h4 h2).2 hi
  ·intro b hb;obtain⟨id,h1,h2⟩:=cC.1 hb;obtain⟨B,h3,h4⟩:=hown id h1;exact(hm.ok id B h3).place hm.Lj (Mi.PV h4) h2
 obtain⟨hent,hfn⟩:=hΓ f sp hsp;intro next Q hn;unfold Oper.wp;rw[hrun];refine(hfn p.x r hD _ w vs _ Mg k1 hpl Uz.Lj).mono ?_;rintro e w' ⟨Rt,LU,Ml,rfl,e1,e2,e3,edr,e4,e5,e6,e7,e8,e9,e10,e11⟩;obtain⟨g',q1,q2,q3,q4⟩:=Ds hm hall hd hfr hown k5 k2 hpl (λb h=>.inl (.inl h)) e1 e2 e3 edr e4 e5
  (λb h=>e6 b (.inl (.inl h))) e8 e10 e11 e9
 exact hn _ w' g' q1 (by simpa using q2) q3 q4
end
set_option linter.unusedVariables false
set_option linter.unusedSimpArgs false
section
variable{F:Fam}{P:Program}{T:TypeId→Option (TI F)}{Γ : Ctx F}{o:Oper}{vals:List (Dat F)}{mm:Nat→Option (Mi F)}{c:Nat}{R:Type}{K:SX F→Option R}
variable{own:Ow}{g:G}{w:World}{m:Nat→Option (Mi F)}{u:Nat→Bool}{a:Act}
theorem D2(hm:LQ own g w m)(hd:∀id,u id=false→g.ids id=none)(hall:∀b,w.heap.size≤b→own.o b)(hfr:u c=false){ob:Obj}{B:Mi F}{d:Dat F}{v:Value}
  (hv:∀g' w',g'.ids c=some (some (w.heap.size,0,0,[]))→Me P g' w' d v)
  (hB:∀g' w',Le g w g' w'→g'.ids c=some (some (w.heap.size,0,0,[]))→w'.heap[w.heap.size]? = some ob→M_ g' w' c B)
  (hrun:(execOp a.eval o).run P w = .ok (.value v) (w.alloc ob)):PZ P own m u g w o a c { val:=d,mw:=[(c,some B)],nu:=1 }:=by
 have hf:g.ids c=none:=hd c hfr;have hold:∀b,b<w.heap.size→(w.alloc ob).heap[b]? = w.heap[b]?:=λb hb=>heap_alloc_old w ob b hb;have hnew:(w.alloc ob).heap[w.heap.size]? = some ob:=heap_alloc_new w ob
 obtain⟨k1,k2⟩:=lN (rm:=[]) (pl:=some (w.heap.size,0,0,[])) (B:=B) hm hf (w':=w.alloc ob) (by
  intro b0 c e b hb;cases e;simp only[MP,Ld]at hb;subst hb
  exact .inl ⟨MO _,by rw[World.size_alloc];omega,hall _ (MO _)⟩) rfl rfl rfl (MO _) (by rw[World.size_alloc];omega) (λb hb _=>hold b hb) (λg' hle hi=>hB g' _ hle hi hnew)
 intro next Q hn;unfold Oper.wp;rw[hrun];refine hn _ _ (g.name c (some (w.heap.size,0,0,[]))) (hv _ _ (bD _ _ _)) k1 k2 ?_;intro x hu hx;have hx:x<c∨c+1≤x:=hx
 have:x≠c:=by omega
 rw[cF _ _ _ this];exact hd x hu
theorem vJ{t:TypeId}{k v:TypeId}{tt:Ty}(h:U0 T t=some (k,v,tt)):∃ti,T t=some ti∧ti.desc = .map k v∧tt.Nz=true:=by
 unfold U0 at h;split at h
 ·rename_i k' v' _ _ _ TJ _ ht
  cases hm:TJ.Nz with
  | false=>rw[hm]at h;cases h
  | true=>rw[hm]at h;cases h;exact⟨_,ht,rfl,hm⟩
 ·cases h
theorem Bf(hT:Mf P T){t:TypeId}(ho:o.op = .makeMap t none):Rule P o vals mm c K (vZ T c K t):=by
 unfold vZ;split
 ·rename_i k v tt ht;intro r hr;refine⟨_,hr,?_⟩;intro own g w a m u hle hm hd hall hfr hrep
  refine D2 (ob:=.map #[] 0) hm hd hall (hfr 0 (by simp)) (v:=.map (some w.heap.size)) ?_ ?_ ?_
  ·intro g' w' hi;exact .c (.Sz hi)
  ·intro g' w' hle' hi hh
   exact⟨w.heap.size,hi,[],hh,rfl,by simp⟩
  ·simp[execOp,ho,Instr.makeMap,newObj];rfl
 ·exact af
theorem Gr{ts r:List Ty}{k:IntKind}(h:ts = .int k::r)(a:M7 F ts){kd:ND F}{Rk:List (ND F)}(he:OW F ts a=kd::Rk):∃n,kd = .i k n:=by subst h;simp only[OW,enc1,QgL]at he;exact⟨_,he.1.symm⟩
theorem G5{ts r:List Ty}(h:ts = .str::r)(a:M7 F ts){kd:ND F}{Rk:List (ND F)}(he:OW F ts a=kd::Rk):∃l,kd = .s l:=by subst h;simp only[OW,enc1,QgL]at he;exact⟨_,he.1.symm⟩
theorem xU{tt:Ty}{d:TypeDesc}{kd:ND F}(h:SL tt (some d) kd=true){w:World}{Lj:Nat→Prop}{kv:Value}(hk:Md w Lj kd kv) :
  MapKept.IsKey d kv∧∀(w':World)(LU:Nat→Prop)(x:ET F tt)(kd':ND F) (Rk:List (ND F)) (ek:Value),LZ F tt x=kd'::Rk→Md w' LU kd' ek→(Pz tt kd x=true↔ek=kv)∧MapKept.IsKey d ek:=by
 unfold SL at h;split at h
 ·rename_i n;split at h
  ·rename_i K r K' K'' m hfs hd;cases hd;simp only[Ng,decide_eq_true_eq]at h;obtain⟨rfl,rfl⟩:=h;cases hk;refine⟨rfl,λw' LU x kd' Rk ek he hr=>?_⟩;obtain⟨m',rfl⟩:=Gr hfs _ he;cases hr;unfold Pz;rw[he];refine⟨?_,rfl⟩;simp only[beq_iff_eq,Value.int.injEq,true_and];exact eq_comm
  ·rename_i r l hfs hd;cases hd;cases hk;refine⟨trivial,λw' LU x kd' Rk ek he hr=>?_⟩;obtain⟨l',rfl⟩:=G5 hfs _ he;cases hr;unfold Pz;rw[he];refine⟨?_,trivial⟩;simp only[beq_iff_eq,Value.string.injEq];constructor
   ·rintro rfl;rfl
   ·intro e;have:=congrArg (λb:ByteArray=>b.data.toList) e;exact this.symm
  ·cases h
 ·cases h
theorem vK{tt:Ty}{p:ET F tt→Bool}{d:TypeDesc}{kv:Value}(hk:MapKept.IsKey d kv):∀(l:List (ET F tt)) (es:List MapEntry) (i:Nat),es.length=l.length→
  (∀(k:Nat)(x:ET F tt)(e:MapEntry),l[k]? = some x→es[k]? = some e→(p x=true↔e.key=kv)∧MapKept.IsKey d e.key)→
  (Instr.findNow d kv es i=some none∧l.find? p=none∧(∀y,OQ p l y=l++[y])∧O6 p l=false)∨
  ∃j x e,Instr.findNow d kv es i=some (some (i+j,e.val))∧l[j]? = some x∧es[j]? = some e∧e.key=kv∧l.find? p=some x∧(∀y,OQ p l y=l.set j y)∧O6 p l=true
 | [],es,i,hl,h=>by
  have:es = []:=TQ (by simpa using hl)
  subst this;exact .inl ⟨rfl,rfl,λ_=>rfl,rfl⟩
 | x::l,[],i,hl,h=>by simp at hl
 | x::l,e::es,i,hl,h=>by
  obtain⟨h1,h2⟩:=h 0 x e rfl rfl;obtain⟨r,hr,hiff⟩:=MapKept.sameNow_of_keys hk h2
  cases hp:p x with
  | true=>
   have he:=h1.1 hp;have hrt:r=true:=hiff.2 he.symm;subst hrt
   exact .inr ⟨0,x,e,by simp[Instr.findNow,hr],rfl,rfl,he,by simp[hp],λy=>by simp[OQ,hp],by simp[O6,hp]⟩
  | false=>
   have hne:¬ kv=e.key:=λq=>by have:=h1.2 q.symm;rw[hp]at this;cases this
   have hrf:r=false:=by
    cases r with
    | false=>rfl
    | true=>exact absurd (hiff.1 rfl) hne
   subst hrf
   rcases vK hk l es (i+1) (by simpa using hl) (λk x e a b=>h (k+1) x e a b)with⟨k1,k2,k3,k4⟩ | ⟨j,x',e',k1,k2,k3,k4,k5,k6,k7⟩
   ·exact .inl ⟨by simp[Instr.findNow,hr,k1],by simp[hp,k2],λy=>by simp[OQ,hp,k3],by unfold O6 at k4 ⊢;simp[hp,k4]⟩
   ·exact .inr ⟨j+1,x',e',by simp[Instr.findNow,hr,k1];omega,by simpa using k2,by simpa using k3,k4,by simp[hp,k5],λy=>by simp[OQ,hp,k6],by unfold O6 at k7 ⊢;simp[hp,k7]⟩
theorem vU{tt:Ty}{x:ET F tt}{d:Dat F}(h:r_ tt x=some d){kd:ND F}{Rk:List (ND F)}(he:LZ F tt x=kd::Rk){v:Value}(hv:Pw w g.Lj (Rk,tt.Wv) v):Me P g w d v:=by
 unfold r_ at h;rw[he]at h;dsimp only at h
 cases hs:tt.Wv with
 | true=>
  rw[hs]at h hv;cases h
  cases hv with
  | agg hl hh=>
   refine .agg (by simpa using hl) λk c x a b=>?_
   rw[Rf,Wp]at a;obtain⟨d,hd,rfl⟩:=a;exact .im (hh k d x hd b)
 | false=>
  rw[hs]at h hv;simp only[cond_false]at h;split at h
  ·cases h
   cases hv with
   | one h=>exact .c (.im h)
  ·cases h
theorem FN(hT:Mf P T){v:TypeId}{tt:Ty}{kd:ND F}{z:ET F tt}(h:xK T v tt kd=some z){d:Dat F}(hd:r_ tt z=some d):∃zv,(zeroValue v).run P w = .ok zv w∧Me P g w d zv:=by
 unfold xK at h;split at h
 ·rename_i te hte
  cases hc:gu te.desc == tt.Wv with
  | false=>rw[hc]at h;cases h
  | true=>
   rw[hc]at h;simp only[cond_true]at h
   have hag:gu te.desc=tt.Wv:=by simpa using hc
   have hle:=cK F h;obtain⟨j,hj,_,_,zv,hz,hzs,hzl,hr⟩:=hT.info v te hte;have hza:=hT.zag v te j zv hte hj hz
   refine⟨zv,by simp[zeroValue,typeInfo,hj,hz],?_⟩
   cases he:LZ F tt z with
   | nil=>rw[he]at hle;exact absurd hle.1 (by simp)
   | cons kd' Rk=>
    rw[he]at hle
    have hl2:Tt te.zero Rk:=⟨by simpa using hle.1,λk a b h1 h2=>hle.2 (k+1) a b h1 h2⟩
    refine vU hd he ?_
    cases hs:tt.Wv with
    | true=>
     rw[hag,hs]at hza
     cases zv with
     | agg cs=>
      refine .agg (by show cs.toList.length=Rk.length;rw[← hl2.1,hzl,← hzs];rfl) λk c x a b=>?_
      have hlt:k<te.zero.length:=by rw[hl2.1];exact(Lb.1 a).1
      exact(hr w g.Lj k _ x (La hlt) (by rw[← QdT];exact b)).X8 (hl2.2 k _ c (La hlt) a)
     | _=>cases hza
    | false=>
     unfold r_ at hd;rw[he,hs]at hd;simp only[cond_false]at hd;split at hd
     ·rename_i d0;rw[hag,hs]at hza
      have h0:0<te.zero.length:=by rw[hl2.1];simp
      have hcell:zv.cells[0]? = some zv:=by
       cases zv<;>first | rfl | cases hza
      exact .one ((hr w g.Lj 0 _ zv (La h0) hcell).X8 (hl2.2 0 _ d0 (La h0) rfl))
     ·cases hd
 ·cases h
theorem y9{tt:Ty}{d:TypeDesc}{kd:ND F}(h:SL tt (some d) kd=true){Lj:Nat→Prop}{kv:Value}(hk:Md w Lj kd kv){l:List (ET F tt)}{es:List MapEntry}
  (h3:∀(k:Nat)(x:ET F tt)(e:MapEntry),l[k]? = some x→es[k]? = some e→e.born=k∧∃kd Rk,LZ F tt x=kd::Rk∧Md w Lj kd e.key∧Pw w Lj (Rk,tt.Wv) e.val) :
  ∀(k:Nat)(x:ET F tt)(e:MapEntry),l[k]? = some x→es[k]? = some e→(Pz tt kd x=true↔e.key=kv)∧MapKept.IsKey d e.key:=by
 intro k x e a b;obtain⟨_,kd',Rk,q1,q2,_⟩:=h3 k x e a b;exact(xU h hk).2 w Lj x kd' Rk e.key q1 q2
theorem BQ(hT:Mf P T){t:TypeId}{x y:Operand}{ok:Bool}(ho:o.op = .lookup t x y ok):Rule P o vals mm c K (xV T vals mm K t ok):=by
 unfold xV;split
 ·rename_i k v tt id kd hmt;split
  ·rename_i TJ l hid;split
   ·rename_i Wi;subst Wi
    cases hko:SL TJ (jL T k) kd with
    | false=>exact af
    | true=>
     simp only[cond_true];split
     ·rename_i z hz;split
      ·rename_i d hd;refine av ?_;intro own g w a m hle hm hr;rw[ho]at hr;simp only[Op.operands,Nr,Oj]at hr;obtain⟨hx,hy⟩:=M5 hr;obtain⟨ti,ht,hde,hmp⟩:=vJ hmt;obtain⟨b,k1,k2,es,k3,k4,k5⟩:=r7 hm (hle _ _ hid);obtain⟨b',c',k6,ex⟩:=rT (bj hx);rw[k2]at k6;cases k6;have hu:=hT.und _ _ ht;rw[hde]at hu
       cases hdk:jL T k with
       | none=>rw[hdk]at hko;unfold SL at hko;split at hko<;>(try cases hko);split at hko<;>simp_all
       | some dk=>
        rw[hdk]at hko
        have huk:P.underlying k=some dk:=by
         unfold jL at hdk;split at hdk
         ·rename_i ti' adp;cases hdk;exact hT.und _ _ adp
         ·cases hdk
        have hkv:=dn (bj hy);have hrel:=y9 hko hkv k5;have hik:=(xU hko hkv).1
        have hfin:∀{v':Value}{bb:Bool}{d':Dat F},Me P g w d' v'→(O6 (Pz TJ kd) l=bb)→Me P g w (cond ok (.Pt [d',.c (.im (.b (O6 (Pz TJ kd) l)))]) d') (if ok=true then .tuple #[v',.bool bb]else v'):=by
         intro v' bb d' hv' hb
         cases ok with
         | false=>exact hv'
         | true=>
          refine .Pt rfl λj d0 x0 a0 b0=>?_
          match j with
          | 0=>cases a0;cases b0;exact hv'
          | 1=>cases a0;cases b0;rw[hb];exact .c (.im (.b _))
          | j+2=>simp at a0
        rcases vK (p:=Pz TJ kd) hik l es 0 k4 hrel with⟨f1,f2,_,f4⟩ | ⟨j,x0,e0,f1,f2,f3,f4,f5,_,f7⟩
        ·obtain⟨zv,hz1,hz2⟩:=FN (w:=w) (g:=g) hT hz (d:=d) (by rw[← hd];unfold Oi;rw[f2];rfl)
         refine⟨if ok=true then .tuple #[zv,.bool false]else zv,?_,hfin hz2 f4⟩
         simp only[execOp,ho,ex,Instr.lookup,OB,run_underlying hu,OO,MapKept.run_getObj_map k3,PL,MapKept.run_checkKey huk hik,MapKept.run_findKey huk f1,hz1]
        ·obtain⟨_,kd',Rk,q1,q2,q3⟩:=k5 j x0 e0 f2 f3
         refine⟨if ok=true then .tuple #[e0.val,.bool true]else e0.val,?_,hfin (vU (x:=x0) (by rw[← hd];unfold Oi;rw[f5];rfl) q1 q3) f7⟩
         simp only[execOp,ho,ex,Instr.lookup,OB,run_underlying hu,OO,MapKept.run_getObj_map k3,PL,MapKept.run_checkKey huk hik,MapKept.run_findKey huk f1]
      ·exact af
     ·exact af
   ·exact af
  ·exact af
 ·exact af
def R_(w:World)(b:Nat)(ob:Obj):World:={ w with heap:=w.heap.setIfInBounds b ob }
theorem ui(w:World)(b:Nat)(ob:Obj){b':Nat}(h:b'≠b):(R_ w b ob).heap[b']? = w.heap[b']?:=by show(w.heap.setIfInBounds b ob)[b']? = _;simp[Ne.symm h]
theorem zS(w:World)(b:Nat)(ob:Obj)(h:b<w.heap.size):(R_ w b ob).heap[b]? = some ob:=by show(w.heap.setIfInBounds b ob)[b]? = _;simp[h]
theorem vP(w:World)(b:Nat)(ob:Obj):(R_ w b ob).heap.size=w.heap.size:=by show(w.heap.setIfInBounds b ob).size=_;simp
theorem sA(hm:LQ own g w m){id b:Nat}{ob:Obj}{B B':Mi F}(hB:m id=some B)(ho:B.owned=true)(hblk:g.blk id b)
  (hB':(R_ w b ob).heap[b]? = some ob→Le g w g (R_ w b ob)→M_ g (R_ w b ob) id B') :
  LQ own g (R_ w b ob) (Ms m [(id,some B')])∧Stp m g w g (R_ w b ob):=by
 have hlt:b<w.heap.size:=(hm.ok id B hB).place hm.Lj (Mi.PV ho) hblk;have hne:∀b',b'≠b→(R_ w b ob).heap[b']? = w.heap[b']?:=λb' h=>ui w b ob h;have ZJ:¬ g.Lj b:=(hm.own id B b hB ho hblk).2;have hle:Le g w g (R_ w b ob):=⟨λ_ _ h=>h,λ_ h=>h,λb' hb'=>hne b' (λe=>ZJ (e▸hb')),λ_ h=>h,λb' hb'=>hne b' (λe=>(hm.len b' hb').1 (e▸(hm.own id B b hB ho hblk).1))⟩
 have less:∀x,x≠id→∀Bx,Ms m [(id,some B')] x=some Bx→m x=some Bx:=by intro x hx Bx h;simp only[Ms]at h;rw[ar (λe=>hx e.symm)]at h;simpa using h
 refine⟨?_,hle,rfl,rfl,rfl,by rw[vP];exact MO _,?_,MO _⟩
 ·refine hm.Pd (S:=λx=>x=id) hle less (λ_ _=>rfl) ?_ ?_ ?_ hm.io (λb' hb'=>⟨(hm.len b' hb').1,by rw[vP];exact(hm.len b' hb').2⟩)
  ·intro x Bx b' hx hBx hox hbx;refine⟨hne b' (λe=>hx ?_),(hm.own x Bx b' hBx hox hbx).2⟩;subst e;exact hm.S_ x id Bx B b' hBx hB hox ho hbx hblk
  ·rintro x Bx rfl hBx;simp only[Ms,bJ,if_true,NI]at hBx;subst hBx;refine⟨hB' (zS w b ob hlt) hle,?_⟩;rintro b' hob hb';refine⟨(hm.own x B b' hB ho hb').1,(hm.own x B b' hB ho hb').2,?_⟩;intro y By hy hoy hby;by_cases hyx:y=x
   ·exact hyx
   ·exact hm.S_ y x By B b' (less y hyx By hy) hB hoy ho hby hb'
  ·intro b' hb';rw[vP];exact hm.Lj b' hb'
 ·intro b' _ hno;exact hne b' (λe=>hno id B hB ho (e▸hblk))
theorem zk(hm:LQ own g w m)(hle:P7 mm m){tt:Ty}{d:Dat F}{cs:List (MK F)}(h:tJ tt d=some cs){ds:List (ND F)}(hds:cS mm cs=some (ds,[])){v:Value}(hv:Me P g w d v){Rk:List (ND F)}(hl:Tt ds Rk):Pw w g.Lj (Rk,tt.Wv) v:=by
 have nd:=λ(vs:List Value)(hr:∀(k:Nat)(x:MK F)(v:Value),cs[k]? = some x→vs[k]? = some v→Mj g w x v)=>kR hm hle hds (g1:=g) (.refl g w) (by simp) vs hr
 have hlen:=ja hds;unfold tJ at h;split at h
 ·rename_i x
  cases hs:tt.Wv with
  | true=>rw[hs]at h;cases h
  | false=>
   rw[hs]at h;cases h
   have h1:=nd [v] (λk x0 v0 a b=>by
    cases k with
    | zero=>cases a;cases b;exact bj hv
    | succ k=>simp at a)
   match ds,hlen,hl,h1 with
   | [d0],_,hl,h1=>
    match Rk,hl with
    | [d1],hl=>exact .one ((h1 0 d0 v rfl rfl).X8 (hl.2 0 d0 d1 rfl rfl))
    | [],hl=>exact absurd hl.1 (by simp)
    | _::_::_,hl=>exact absurd hl.1 (by simp)
   | [],hlen,_,_=>simp at hlen
   | _::_::_,hlen,_,_=>simp at hlen
 ·rename_i cs'
  cases hs:tt.Wv with
  | false=>rw[hs]at h;cases h
  | true=>
   rw[hs]at h;cases h
   cases hv with
   | agg hl2 hh=>
    rename_i vs;have h1:=nd vs hh
    refine .agg (by rw[hl2,← hlen,hl.1]) λk c x a b=>?_
    have hlt:k<ds.length:=by rw[hl.1];exact(Lb.1 a).1
    exact(h1 k _ x (La hlt) b).X8 (hl.2 k _ c (La hlt) a)
 ·cases h
theorem yb(hT:Mf P T){t:TypeId}{x y z:Operand}(ho:o.op = .mapUpdate t x y z):Rule P o vals mm c K (sI T vals mm K t):=by
 unfold sI;split
 ·rename_i k v tt id kd d hmt;split
  ·rename_i TJ l cs hid hcs;split
   ·rename_i Wi;subst Wi
    cases hko:SL TJ (jL T k) kd with
    | false=>exact af
    | true=>
     simp only[cond_true];split
     ·rename_i ds hds;split
      ·rename_i ny hny;intro r hr;refine⟨_,hr,?_⟩;intro own g w a m u hle hm hd hall hfr hrep;rw[ho]at hrep;simp only[Op.operands,Nr,Oj]at hrep;obtain⟨hx,hyz⟩:=aX.1 hrep;obtain⟨hy,hz⟩:=M5 hyz;obtain⟨ti,ht,hde,hmp⟩:=vJ hmt;obtain⟨b,k1,k2,es,k3,k4,k5⟩:=r7 hm (hle _ _ hid);obtain⟨b',c',k6,ex⟩:=rT (bj hx);rw[k2]at k6;cases k6;have hu:=hT.und _ _ ht;rw[hde]at hu
       cases hdk:jL T k with
       | none=>rw[hdk]at hko;unfold SL at hko;split at hko<;>(try cases hko);split at hko<;>simp_all
       | some dk=>
        rw[hdk]at hko
        have huk:P.underlying k=some dk:=by
         unfold jL at hdk;split at hdk
         ·rename_i ti' adp;cases hdk;exact hT.und _ _ adp
         ·cases hdk
        have hkv:=dn (bj hy);have hrel:=y9 hko hkv k5;have hik:=(xU hko hkv).1;have hle2:=cK F hny
        cases he:LZ F TJ ny with
        | nil=>rw[he]at hle2;exact absurd hle2.1 (by simp)
        | cons kd' Rk=>
         rw[he]at hle2
         have hl2:Tt ds Rk:=⟨by simpa using hle2.1,λk a b h1 h2=>hle2.2 (k+1) a b h1 h2⟩
         have hkd:Vb kd kd':=hle2.2 0 kd kd' rfl rfl;have hkv':Md w g.Lj kd' (a.eval y):=hkv.X8 hkd;have hval:=zk hm hle hcs hds hz hl2
         have done:∀(es':List MapEntry),(execOp a.eval o).run P w = .ok .skip (R_ w b (.map ⟨es'⟩ es'.length))→es'.length=(OQ (Pz TJ kd) l ny).length→
           (∀(k:Nat)(x:ET F TJ)(e:MapEntry),(OQ (Pz TJ kd) l ny)[k]? = some x→es'[k]? = some e→e.born=k∧∃kd Rk,LZ F TJ x=kd::Rk∧Md w g.Lj kd e.key∧Pw w g.Lj (Rk,TJ.Wv) e.val)→
           PZ P own m u g w o a c { val:=.c .any,mw:=[(id,some (.mp TJ (OQ (Pz TJ kd) l ny)))] }:=by
          intro es' hrun h1 h2
          obtain⟨w1,w2⟩:=sA (ob:=.map ⟨es'⟩ es'.length) (B':=.mp TJ (OQ (Pz TJ kd) l ny)) hm (hle _ _ hid) rfl (G.MI k2) (by intro hh hle';refine⟨b,k2,es',hh,h1,λk x e p q=>?_⟩;obtain⟨p1,kd0,afj,p2,p3,p4⟩:=h2 k x e p q;exact⟨p1,kd0,afj,p2,p3.mono hle'.Lj hle'.heap,p4.mono hle'.Lj hle'.heap⟩)
          intro next Q hn;unfold Oper.wp;rw[hrun];exact hn undef _ g (.c .any) w1 w2 (λid hu _=>hd id hu)
         rcases vK (p:=Pz TJ kd) hik l es 0 k4 hrel with⟨f1,f2,f3,f4⟩ | ⟨j,x0,e0,f1,f2,f3,f4,f5,f6,f7⟩
         ·refine done (es++[{ key:=a.eval y,val:=a.eval z,born:=es.length }]) ?_ (by rw[f3];simp[k4]) ?_
          ·simp only[execOp,ho,ex,Instr.mapUpdate,OB,run_underlying hu,OO,MapKept.run_getObj_map k3,PL,MapKept.run_checkKey huk hik,MapKept.run_findKey huk f1,MapKept.run_setObj_map _ k3];simp[R_]
          ·intro k x e p q;rw[f3]at p;by_cases hk:k<l.length
           ·rw[Ru hk]at p
            rw[Ru (by omega)]at q
            exact k5 k x e p q
           ·rw[RD (by omega)]at p
            rw[RD (by omega)]at q
            have hk0:k - l.length=0:=by have:=(Lb.1 p).1;simp at this;omega
            rw[hk0]at p
            rw[show k - es.length=0 by omega]at q
            cases p;cases q
            exact⟨by show es.length=k;omega,kd',Rk,he,hkv',hval⟩
         ·have hjl:j<es.length:=(Lb.1 f3).1
          refine done (es.set j { e0 with key:=a.eval y,val:=a.eval z }) ?_ (by rw[f6];simp[k4]) ?_
          ·have hst:(Instr.keyThatStays (((⟨es⟩:Array MapEntry)[0+j]?.map (·.key)).getD (a.eval y)) (a.eval y)).run P w = .ok (a.eval y) w:=by
            have e1:(((⟨es⟩:Array MapEntry)[0+j]?.map (·.key)).getD (a.eval y))=a.eval y:=by rw[OY,List.getElem?_toArray,f3];exact f4
            rw[e1];exact MapKept.run_keyThatStays hik
           have hmod:(⟨es⟩:Array MapEntry).modify (0+j) (λe=>{ e with key:=a.eval y,val:=a.eval z })=⟨es.set j { e0 with key:=a.eval y,val:=a.eval z }⟩:=by
            apply Array.toList_inj.1;apply QeI;intro i;rw[QdT,Array.getElem?_modify,List.getElem?_toArray];show _=(es.set j _)[i]?;rw[List.getElem?_set];by_cases hij:j=i
            ·subst hij;simp[hjl,f3];have:=(Lb.1 f3).2;rw[this]
            ·simp[hij]
           simp only[execOp,ho,ex,Instr.mapUpdate,OB,run_underlying hu,OO,MapKept.run_getObj_map k3,PL,MapKept.run_checkKey huk hik,MapKept.run_findKey huk f1,hst,MapKept.run_setObj_map _ k3,hmod];simp[R_]
          ·intro k x e p q;rw[f6]at p;rw[List.getElem?_set]at p q;by_cases hjk:j=k
           ·subst hjk
            rw[if_pos rfl,if_pos (by omega)]at p q
            cases p;cases q
            exact⟨(k5 j x0 e0 f2 f3).1,kd',Rk,he,hkv',hval⟩
           ·rw[if_neg hjk]at p q;exact k5 k x e p q
      ·exact af
     ·exact af
   ·exact af
  ·exact af
 ·exact af
end
set_option linter.unusedVariables false
set_option linter.unusedSimpArgs false
section
variable{F:Fam}{P:Program}{T:TypeId→Option (TI F)}{Γ : Ctx F}{o:Oper}{vals:List (Dat F)}{mm:Nat→Option (Mi F)}{c:Nat}{R:Type}{K:SX F→Option R}
variable{own:Ow}{g:G}{w:World}{m:Nat→Option (Mi F)}{u:Nat→Bool}{a:Act}
theorem FE{t ty e:TypeId}{j:TypeInfo}{z:Value}(hu:P.underlying t=some (.slice e))(hj:P.info? e=some j)(hz:j.zero=some z){b q n cap:Nat}{cur:List Value}
  {e':TypeId} (hb:w.heap[b]? = some (.cells ⟨cur⟩ e' (0,0))) (hn:0<n) (h1:∀x∈(Builtin.zeroCells z.cells n).toList,x.oneCell'=true) (hfit:q+(Builtin.zeroCells z.cells n).toList.length≤cur.length) :
  (Builtin.clear_ #[t] ty #[.slice (some ⟨b,q,none⟩) n cap]).run P w =
    .ok (.tuple #[]) (w.setRow b (cur.take q++(Builtin.zeroCells z.cells n).toList++cur.drop (q+(Builtin.zeroCells z.cells n).toList.length)).toArray):=by
 have hst:=run_storeCells_at P b q e' (Builtin.zeroCells z.cells n).toList 0 ⟨cur⟩ w hb (by simpa using hfit) h1
 simp only[U9]at hst
 obtain⟨m,rfl⟩:∃m,n=m+1:=⟨n - 1,by omega⟩
 simp[Builtin.clear_,run_underlying hu,zeroValue,typeInfo,hj,hz,hst]
theorem Du(hT:Mf P T)(hm:LQ own g w m)(hd:∀id,u id=false→g.ids id=none)
  {t e:TypeId} {i te:TI F} (ht:T t=some i) (hde:i.desc = .slice e) (hte:T e=some te) {tt:Ty} (hsz:LV F tt=te.size) (h0:0<te.size) {z0:ET F tt} (hz0:O7 F tt te.zero=some z0) {x:Operand}
  (ho:o.op = .call { callee:=.builtin .clear,args:=#[x],argTypes:=#[t] }) {l:List (ET F tt)} {id off n:Nat} (hrow:m id=some (.row tt l))
  (hdst:(g.ids id=none∨g.ids id=some none)∧off=0∧n=0∧(∃p,a.eval x = .slice p 0 0)∨∃b q dCap cap,g.ids id=some (some (b,cap,l.length,[]))∧a.eval x = .slice (some ⟨b,q,none⟩) n dCap∧off+n≤l.length∧(n=0∨q=off*LV F tt)) :
  PZ P own m u g w o a c { val:=.Pt [],mw:=[(id,some (.row tt (Rm l off n (List.replicate n z0))))] }:=by
 have hu:=hT.und _ _ ht;rw[hde]at hu;obtain⟨j,z,hj,hs,hb,hz,hzs,hml,hzl,hmr⟩:=rf hT hte h0 n
 have PU:∀{v:Value}{w':World},(Builtin.clear_ #[t] o.type #[a.eval x]).run P w = .ok v w'→(execOp a.eval o).run P w = .ok (.value v) w':=by intro v w' hr;simp only[execOp,ho,resolve,invoke,builtin,OB,PL,OO,QgC,Nr,Oj,hr]
 have same:∀{l':List (ET F tt)},l'=l→Ms m [(id,some (.row tt l'))]=m:=by
  rintro l' rfl
  funext x
  simp only[Ms];split
  ·rename_i hx;rw[← Q_ hx,hrow]
  ·rfl
 have afl:∀g' w',Me (F:=F) P g' w' (.Pt []) (.tuple #[]):=λg' w'=>.Pt rfl (λj d x h=>by simp at h)
 by_cases hn0:n=0
 ·subst hn0
  have hl:Rm l off 0 (List.replicate 0 z0)=l:=by simp[Rm]
  have hrun:(execOp a.eval o).run P w = .ok (.value (.tuple #[])) w:=by
   refine PU ?_
   have:∃p q,a.eval x = .slice p 0 q:=by
    rcases hdst with⟨_,_,_,p,e⟩ | ⟨b,q,dCap,cap,_,e,_⟩
    ·exact⟨p,0,e⟩
    ·exact⟨_,_,e⟩
   obtain⟨p,q,e⟩:=this;rw[e]
   cases p<;>simp[Builtin.clear_,run_underlying hu]
  intro next Q hn;unfold Oper.wp;rw[hrun]
  exact hn _ w g (afl _ _) (by rw[same hl];exact hm) (.refl _ _ _) (λid hu _=>hd id hu)
 ·rcases hdst with⟨_,_,h,_⟩ | ⟨b,q,dCap,cap,hid,hxv,hoff,hq⟩
  ·exact absurd h hn0
  rcases hm.ok id _ hrow with⟨k1,_⟩ | ⟨b',cap2,cur,e',k1,k2,k3,k4,k5,k6⟩
  ·rw[k1]at hid;cases hid
  ·rw[k1]at hid;cases hid;have hq:q=off*LV F tt:=hq.resolve_left hn0;subst hq;have hcl:(cells F tt l).length=l.length*LV F tt:=aG
   have hcur:(cells F tt l).length≤cur.length:=by rw[hcl,k5];exact Ro _ k3
   obtain⟨zs,VG⟩:∃zs,zs=(Builtin.zeroCells z.cells n).toList:=⟨_,rfl⟩
   have hzm:zs=(madeCells z.cells (n*te.size)).toList:=by rw[VG];unfold Builtin.zeroCells madeCells;rw[hzs]
   have hfl:(List.replicate n te.zero).flatten.length=n*te.size:=by
    rw[lT (sz:=te.size) (λx hx=>by rw[List.mem_replicate]at hx;rw[hx.2,hzl])]
    simp
   have ZC:zs.length=n*LV F tt:=by rw[hzm,hml,hfl,hsz]
   have h1:∀x∈zs,x.oneCell'=true:=by
    intro x hx;obtain⟨k,hk⟩:=Ye hx
    have hlt:k<(List.replicate n te.zero).flatten.length:=by have:=(Lb.1 hk).1;rw[hfl,← hsz,← ZC];exact this
    exact(hmr w g.Lj k _ x (La hlt) (by rw[← hzm];exact hk)).oneCell
   have hmin:min n (List.replicate n z0).length=n:=by simp
   have hm1:off+min n (List.replicate n z0).length≤l.length:=by rw[hmin];exact hoff
   have hfit:off*LV F tt+zs.length≤cur.length:=by rw[ZC,← Um];have:(off+n)*LV F tt≤l.length*LV F tt:=Ro _ hoff;omega
   have hrun:=FE (P:=P) (w:=w) (ty:=o.type) (n:=n) (cap:=dCap) (q:=off*LV F tt) hu hj hz k2 (by omega) (by rw[← VG];exact h1) (by rw[← VG];exact hfit)
   rw[← VG]at hrun;have hz2:Tt te.zero (LZ F tt z0):=cK F hz0
   obtain⟨w1,w2⟩:=uN (B':=.row tt (Rm l off n (List.replicate n z0))) (arr:=cur.take (off*LV F tt)++zs++cur.drop (off*LV F tt+zs.length)) hm hrow rfl k1 k2 (by
    intro hh hle'
    refine .inr ⟨b,cap,_,e',by rw[ve hm1];exact k1,hh,by rw[ve hm1];exact k3,k4,?_,?_⟩
    ·simp only[Lc,Ox,Rn];omega
    ·intro k d x p q;refine Md.le hle' ?_;rw[yL hm1]at p
     have hrl:(cells F tt (List.replicate n z0)).length=n*LV F tt:=by rw[aG,List.length_replicate]
     have ht0:(cells F tt (List.replicate n z0)).take (n*LV F tt)=cells F tt (List.replicate n z0):=WC (by rw[hrl];exact MO _)
     rw[ht0]at p;refine sj (w:=w) (Lj:=g.Lj) (cs:=cells F tt l) (ds:=cells F tt (List.replicate n z0)) (cur:=cur) (vs:=zs) (q:=off*LV F tt) ?_ hcur k6 ?_ ?_ k d x p q
     ·rw[hrl,aG,← Um];exact Ro _ hoff
     ·rw[ZC,hrl]
     ·intro k d x h3 h4
      have hk:k<n*LV F tt:=by rw[← hrl];exact(Lb.1 h3).1
      have hlz:(LZ F tt z0).length=te.size:=by rw[bC,hsz]
      have e1:(cells F tt (List.replicate n z0))=(List.replicate n (LZ F tt z0)).flatten:=by simp[cells]
      rw[e1,fL _ (by rw[hlz];omega) n k (by rw[hlz,← hsz];exact hk),hlz]at h3
      have hk2:k<n*te.zero.length:=by rw[hzl,← hsz];exact hk
      have hk3:k % te.size<te.zero.length:=by rw[hzl];exact Nat.mod_lt _ (by omega)
      have e2:(List.replicate n te.zero).flatten[k]? = some te.zero[k % te.size]:=by
       rw[fL te.zero (by omega) n k hk2,hzl,La hk3]
      exact(hmr _ _ k _ x e2 (by rw[← hzm];exact h4)).X8 (hz2.2 (k % te.size) _ d (La hk3) h3))
   intro next Q hn;unfold Oper.wp
   rw[PU (by rw[hxv];exact hrun)]
   exact hn _ _ g (afl _ _) w1 w2 (λid hu _=>hd id hu)
theorem Dl(hT:Mf P T){t:TypeId}{x:Operand}(ho:o.op = .call { callee:=.builtin .clear,args:=#[x],argTypes:=#[t] }):Rule P o vals mm c K (AK T vals mm K t):=by
 unfold AK;split
 ·rename_i e _ _ _ _ _ id sz off n ht;split
  ·exact af
  ·rename_i te hte;split
   ·rename_i tt l hrow;refine aA (λhc=>?_) (λ_=>af);simp only[Ng,decide_eq_true_eq,beq_iff_eq]at hc;obtain⟨⟨hsz,rfl⟩,h0⟩:=hc
    have h0:0<te.size:=by
     have:1≤te.size:=by simpa[Nat.blt]using h0
     omega
    split
    ·rename_i z hz;intro r' hr';refine⟨_,hr',?_⟩;intro own g w a m u hle hm hd hall hfr hrep;rw[ho]at hrep
     have h1:=Ny (by simpa[Op.operands,Call.operands]using hrep)
     refine Du hT hm hd ht rfl hte hsz h0 hz ho (hle _ _ hrow) ?_;rcases pG (bj h1)with⟨hi,rfl,rfl,p,hv⟩ | ⟨b,c',len,q,hi,h5,h6,h7,h8,hv⟩
     ·exact .inl ⟨.inr hi,rfl,rfl,p,hv⟩
     ·obtain⟨rfl,_,_⟩:=dj hm (hle _ _ hrow) hi;refine .inr ⟨b,q,_,c',hi,hv,h5,?_⟩;rcases h7 with⟨h7,_⟩ | h7
      ·left;omega
      ·right;rw[h7,hsz]
    ·exact af
   ·exact af
 ·exact af
theorem FF(hT:Mf P T){t:TypeId}{x:Operand}{lo hi:Option Operand}(ho:o.op = .slice t x lo hi none){bb:Bool}(hc:(bb&&lo.isNone)=true):Rule P o vals mm c K (Zh T vals mm c K t (ob hi 1)):=by
 have hlo:lo=none:=by cases lo with | none=>rfl | some _=>simp at hc
 subst hlo;clear hc;unfold Zh;split
 ·rename_i e _ _ _ _ _ id rest ht;split
  ·exact af
  ·rename_i te hte;split
   ·rename_i tt l hrow;refine aA (λhsz=>?_) (λ_=>af);split
    ·rename_i q hq;refine aE λpr hr=>?_;intro r' hr';refine⟨_,hr',?_⟩;intro own g w a m u hle hm hd hall hfr hrep;obtain⟨c1,c2,c3,rfl⟩:=D6 hr
     have hops:o.op.operands.toList.map a.eval=a.eval x::(hi.map a.eval).toList:=by
      rw[ho]
      cases hi<;>simp[Op.operands]
     rw[hops]at hrep;have hx0:=hrep.2 0 _ (a.eval x) rfl rfl
     have hhi:(hi.map a.eval=none∧q=l.length)∨∃k,hi.map a.eval=some (.int k q):=by
      cases hi with
      | none=>simp only[ob,bound,NI]at hq;exact .inl ⟨rfl,hq.symm⟩
      | some y=>
       simp only[ob,bound]at hq;split at hq
       ·rename_i k n' hq';cases hq
        have:=hrep.2 1 _ (a.eval y) hq' (by simp)
        exact .inr ⟨k,by rw[Ya,cJ this]⟩
       ·cases hq
     have run:∀{ptr:Option Addr}{cap:Nat},a.eval x = .slice ptr l.length cap→l.length≤cap→
       (execOp a.eval o).run P w = .ok (.value (.slice (if cap=0 then ptr else ptr.map (·.add 0)) q.toNat cap)) w:=by
      intro ptr cap e1 h5;have hu:=hT.und _ _ ht
      have hr:=oX (P:=P) (w:=w) true l.length cap none (hi.map a.eval) 0 q (.inl ⟨rfl,rfl⟩) hhi (by omega) c2 (by omega)
      simp only[execOp,ho,Instr.sliceAt,Instr.slice,OB,run_underlying hu,OO,e1,Option.map_none];rw[hr];simp only[OO,cv hT hte,PL];simp
     have Tz:g.ids c=none:=hd c (hfr 0 (by simp))
     have htk:(l.take (q.toNat - (0:Int).toNat)).length=q.toNat:=by rw[Ox];simp;omega
     have fin:∀{v:Value}{pl:Pl},(execOp a.eval o).run P w = .ok (.value v) w→
       (LQ own (g.name c pl) w (Ms m ([id].map (λr=>(r,none))++[(c,some (.row tt (l.take (q.toNat - (0:Int).toNat))))]))∧Stp m g w (g.name c pl) w)→Mj (F:=F) (g.name c pl) w (.Nl c) v→
       PZ P own m u g w o a c { val:=.c (.Nl c),mw:=[(id,none),(c,some (.row tt (l.take (q.toNat - (0:Int).toNat))))],nu:=1 }:=by
      intro v pl hrun hst hv next Q hn;unfold Oper.wp;rw[hrun];refine hn _ _ _ (.c hv) hst.1 hst.2 ?_;intro y hy hcy
      have:y≠c:=by have hcy:y<c∨c+1≤y:=hcy;omega
      rw[cF _ _ _ this];exact hd y hy
     have hB:=hle _ _ hrow;rcases bE (bj hx0)with⟨hid,ptr,ev⟩ | ⟨b,c',len,hid,h5,h6,ev⟩
     ·rcases hm.ok id _ hB with⟨_,rfl⟩ | ⟨_,_,_,_,k1,_⟩
      ·simp only[Xb]at c3 hq
       have hq0:q=0:=by omega
       subst hq0
       refine fin (pl:=none) (run (by simpa using ev) (MO _)) (lN hm Tz (λ_ _ h=>by cases h) rfl rfl rfl (MO _) (MO _) (λ_ _ _=>rfl) (λg' _ hi=>.inl ⟨hi,by simp⟩)) ?_
       exact .PN _ (bD _ _ _)
      ·rw[hid]at k1;cases k1
     ·rcases hm.ok id _ hB with⟨k1,_⟩ | ⟨b',cap2,cur,e',k1,k2,k3,k4,k5,k6⟩
      ·rw[k1]at hid;cases hid
      rw[k1]at hid;cases hid;refine fin (pl:=some (b,c',q.toNat,[])) (run ev k3) (lN (rm:=[id]) hm Tz ?_ rfl rfl rfl (MO _) (MO _) (λ_ _ _=>rfl) ?_) ?_
      ·intro b0 c0 e0 b1 hb1;cases e0;simp only[MP,Ld]at hb1;subst hb1
       exact .inr ⟨id,by simp,_,hB,rfl,G.MI k1⟩
      ·intro g' hle' hi
       refine .inr ⟨b,c',cur,e',by rw[htk];exact hi,k2,by rw[htk];omega,k4,k5,?_⟩
       intro k d x h1 h2
       have h1':(cells F tt l)[k]? = some d:=by
        have:=mO (F:=F) (l:=l) (a:=0) (n:=q.toNat - (0:Int).toNat);simp only[Fx.sub,QeC,Nat.zero_mul]at this;rw[this,RF]at h1;split at h1
        ·exact h1
        ·cases h1
       exact(k6 k d x h1' h2).mono hle'.Lj hle'.heap
      ·have e:(if c'=0 then(some ⟨b,0,none⟩:Option Addr)else(some ⟨b,0,none⟩:Option Addr).map (·.add 0))=some ⟨b,0,none⟩:=by
        split
        ·rfl
        ·rfl
       rw[e]
       exact .Nl (n:=(q.toNat,[])) (bD _ _ _) (by dsimp only;omega) k4
    ·exact af
   ·exact af
 ·exact af
end
end Go.Fx
