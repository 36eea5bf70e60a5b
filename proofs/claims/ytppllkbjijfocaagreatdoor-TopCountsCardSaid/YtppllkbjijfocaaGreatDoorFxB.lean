/-
  The framework, second part: rules for steps, calls and maps. Conditions: none.
-/
import Derived.Test.YtppllkbjijfocaaGreatDoorFxA
import Derived.Laws.Tables
namespace Go.Fx
open Go
set_option linter.unusedVariables false
set_option linter.unusedSimpArgs false
section
variable{F:Fam}{P:Program}{T:TypeId→Option (TI F)}{o:Oper}{vals:List (Dat F)}{mm:Nat→Option (J8 F)}{c:Nat}{R:Type}{K:Oy F→Option R}{own:Ow}{g g':G}{w w':World}{m m':Nat→Option (J8 F)}
theorem aj{a b:Nat}(h:a≠b):Nat.beq a b=false:=by
 cases hb:Nat.beq a b with
 | false=>rfl
 | true=>exact absurd (M_ hb) h
theorem ba(a:Nat):Nat.beq a a=true:=WU a
theorem aK{x:Nat}:∀{l:List Nat},Jw x l=true↔x∈l
 | []=>by simp[Jw]
 | y::l=>by
  simp only[Jw];split
  ·rename_i h;have:=M_ h;subst this;simp
  ·rename_i h
   have hne:x≠y:=by rintro rfl;simp[ba]at h
   rw[aK];simp[hne]
theorem dC(m:Nat→Option (J8 F)):∀(l r:List (Nat×Option (J8 F))),Ki m (l++r)=Ki (Ki m l) r
 | [],r=>rfl
 | (id,B)::l,r=>dC _ l r
theorem cu:∀(mw:List (Nat×Option (J8 F))) (m:Nat→Option (J8 F)) (x:Nat),x∉mw.map (·.1)→Ki m mw x=m x
 | [],m,x,_=>rfl
 | (id,B)::r,m,x,h=>by simp only[K7,Lr,not_or]at h;simp only[Ki];rw[cu r _ x h.2,aj (λe=>h.1 e.symm)];simp
theorem pn(m:Nat→Option (J8 F))(l:List (Nat×Option (J8 F)))(id:Nat)(B:Option (J8 F))(x:Nat):Ki m (l++[(id,B)]) x=if x=id then B else Ki m l x:=by
 rw[dC];simp only[Ki];by_cases h:x=id
 ·subst h;simp
 ·rw[aj (λe=>h e.symm)];simp[h]
theorem Jl.Mv{S:Nat→Prop}(hm:Jl own g w m)(hl:Le g w g' w')
  (hsame:∀id,¬ S id→∀B,m' id=some B→m id=some B) (Lv:∀id,¬ S id→g'.ids id=g.ids id)
  (hkeep:∀id B b,¬ S id→m id=some B→B.owned=true→g.blk id b→w'.heap[b]? = w.heap[b]?∧¬ g'.I7 b)
  (hnew:∀id B,S id→m' id=some B→KQ g' w' id B∧∀b,B.owned=true→g'.blk id b→own.o b∧¬ g'.I7 b∧∀id' B',m' id'=some B'→B'.owned=true→g'.blk id' b→id'=id)
  (Kl:∀b,g'.I7 b→b<w'.heap.size) (XC:∀b,g'.I7 b→own.i b∨own.o b) (hlen:∀b,g'.len b→¬ own.o b∧b<w'.heap.size):Jl own g' w' m':=by
 have hb:∀id b,¬ S id→g'.blk id b→g.blk id b:=by rintro id b hs ⟨b0,c,hc,hbb⟩;rw[Lv id hs]at hc;exact⟨b0,c,hc,hbb⟩
 refine⟨?_,?_,?_,Kl,XC,hlen⟩
 ·intro id B h;by_cases hs:S id
  ·exact(hnew id B hs h).1
  ·have h0:=hsame id hs B h;exact(hm.ok id B h0).le hl (λho b hb'=>(hkeep id B b hs h0 ho hb').1)
 ·intro id id' B B' b h h' ho ho' k k';by_cases hs:S id
  ·exact(((hnew id B hs h).2 b ho k).2.2 id' B' h' ho' k').symm
  ·by_cases hs':S id'
   ·exact((hnew id' B' hs' h').2 b ho' k').2.2 id B h ho k
   ·exact hm.OB id id' B B' b (hsame id hs B h) (hsame id' hs' B' h') ho ho' (hb id b hs k) (hb id' b hs' k')
 ·intro id B b h ho k;by_cases hs:S id
  ·exact⟨((hnew id B hs h).2 b ho k).1,((hnew id B hs h).2 b ho k).2.1⟩
  ·have h0:=hsame id hs B h;exact⟨(hm.own id B b h0 ho (hb id b hs k)).1,(hkeep id B b hs h0 ho (hb id b hs k)).2⟩
theorem Jl.sub(hm:Jl own g w m)(h:∀id B,m' id=some B→m id=some B):Jl own g w m':=
 ⟨λid B hB=>hm.ok id B (h id B hB),λid id' B B' b hB hB'=>hm.OB id id' B B' b (h id B hB) (h id' B' hB'),λid B b hB=>hm.own id B b (h id B hB),hm.I7,hm.io,hm.len⟩
def G.Nq(g:G)(ids:List Nat):G:=⟨g.ids,λb=>g.I7 b∨∃id∈ids,g.blk id b,g.len⟩
theorem mg(g:G)(w:World)(ids:List Nat):Le g w (g.Nq ids) w:=⟨λ_ _ h=>h,λ_ h=>.inl h,λ_ _=>rfl,λ_ h=>h,λ_ _=>rfl⟩
theorem Cj(hm:Jl own g w m){id:Nat}{t:Ty}{l:List (ET F t)}(h:m id=some (.row t l)){g1:G}(hle:Le g w g1 w)(Kl:∀b,g.blk id b→g1.I7 b){v:Value}(hv:Ka (F:=F) g w (.KU id) v):Ju w g1.I7 (.sl t l) v:=by
 rcases a_ hv with⟨hi,p,rfl⟩ | ⟨b,c,n,hi,h1,h2,rfl⟩
 ·rcases hm.ok id _ h with⟨_,rfl⟩ | ⟨b',cap,_,_,k1,_⟩
  ·exact .sl0 t p
  ·rw[hi]at k1;cases k1
 ·obtain⟨rfl,h4,h7⟩:=bX hm h hi;refine .sl t l b 0 c (λk=>(w.cell? ⟨b,k,none⟩).getD undef) (Kl b (G.Kt hi)) h4 h2 ?_ ?_
  ·intro k d hk;obtain⟨x,k1,k2⟩:=h7 k d hk;rw[L_,k1];rfl
  ·intro k d hk;obtain⟨x,k1,k2⟩:=h7 k d hk;rw[k1];exact k2.le hle
theorem zI{I7 Jo:Nat→Prop}(hi:∀b,I7 b→Jo b){t:Ty}{l:List (ET F t)}{pl:Pl}(h:bD w I7 t l pl)(hb:∀b c,pl=some (b,c)→Jo b){v:Value}(hv:Ll pl v):Ju w Jo (.sl t l) v:=by
 cases pl with
 | none=>obtain⟨p,rfl⟩:=hv;have h:l = []:=h;subst h;exact .sl0 t p
 | some q=>
  obtain⟨b,cap,n⟩:=q;obtain⟨rfl,q2,q3,cur,e,q4,q5,q6⟩:=h;have hv:v = .slice (some ⟨b,0,none⟩) l.length cap:=hv;subst hv
  have key:∀k d,(cells F t l)[k]? = some d→∃x,w.cell? ⟨b,k,none⟩=some x∧Ju w Jo d x:=by
   intro k d hk;have h7:k<(cells F t l).length:=(I0.1 hk).1
   have hlt:k<cur.length:=by rw[aD]at h7;have:l.length*Jm F t≤cap*Jm F t:=M5 _ q2;omega
   exact⟨cur[k],by simp[World.cell?,q4,hlt],(q6 k d _ hk (IZ hlt)).mono hi (λ_ _=>rfl)⟩
  refine .sl t l b 0 cap (λk=>(w.cell? ⟨b,k,none⟩).getD undef) (hb b _ rfl) q2 q3 ?_ ?_
  ·intro k d hk;obtain⟨x,k1,k2⟩:=key k d hk;rw[L_,k1];rfl
  ·intro k d hk;obtain⟨x,k1,k2⟩:=key k d hk;rw[k1];exact k2
theorem BX{I7 Jo:Nat→Prop}(hi:∀b,I7 b→Jo b){d:ND F}{x:Value}{pl:Option (Nat×Nat×Nat)}(h:LJ w I7 d x pl)(hb:∀b c,pl=some (b,c)→Jo b):Ju w Jo d x:=by
 cases d with
 | sl t l=>
  refine zI hi h.1 ?_ h.2;intro b c e
  cases pl with
  | none=>cases e
  | some q=>obtain⟨b',c',n'⟩:=q;simp only[KW,K3,Prod.mk.injEq]at e;exact hb b (c',n') (by rw[← e.1])
 | _=>exact h.2.2.mono hi (λ_ _=>rfl)
theorem wD(hm:Jl own g w m){id:Nat}{t:Ty}{l:List (ET F t)}(h:m id=some (.KR t l)){g1:G}(hle:Le g w g1 w)(Kl:∀b,g.blk id b→g1.I7 b){b c:Nat}{n:Nat×NS}(hi:g.ids id=some (some (b,c,n))) :
  n.1=l.length∧l.length≤c∧c≤maxLen∧∀k d,(cells F t l)[k]? = some d→∃x,w.cell? ⟨b,k,none⟩=some x∧Ju w g1.I7 d x:=by
 obtain⟨k1,k2,k3,k4⟩:=fp hm h hi;refine⟨k1,k2,k3,λk d hk=>?_⟩;obtain⟨x,pl,h1,h2,h3⟩:=k4 k d hk;refine⟨x,h1,BX hle.I7 h3 ?_⟩;rintro b' c' rfl;exact Kl b' ⟨b,(c,n),hi,PG _ (fa h2)⟩
theorem Bf(hm:Jl own g w m){id:Nat}{t:Ty}{l:List (ET F t)}(h:m id=some (.KR t l)){g1:G}(hle:Le g w g1 w)(Kl:∀b,g.blk id b→g1.I7 b){v:Value}(hv:Ka (F:=F) g w (.KU id) v):Ju w g1.I7 (.sl t l) v:=by
 rcases a_ hv with⟨hi,p,rfl⟩ | ⟨b,c,n,hi,h1,h2,rfl⟩
 ·obtain⟨pl,k1,k2⟩:=hm.ok id _ h;rw[hi]at k1;cases k1;have k2:l = []:=k2;subst k2;exact .sl0 t p
 ·obtain⟨k1,h4,h5,h7⟩:=wD hm h hle Kl hi;rw[k1];refine .sl t l b 0 c (λk=>(w.cell? ⟨b,k,none⟩).getD undef) (Kl b (G.Kt hi)) h4 h2 ?_ ?_
  ·intro k d hk;obtain⟨x,k1,k2⟩:=h7 k d hk;rw[L_,k1];rfl
  ·intro k d hk;obtain⟨x,k1,k2⟩:=h7 k d hk;rw[k1];exact k2
theorem Es(hm:Jl own g w m){id:Nat}{t:Ty}{l:List (ET F t)}(h:m id=some (.row t l)){g1:G}(hle:Le g w g1 w)(Kl:∀b,g.blk id b→g1.I7 b){sz off n:Nat}(hsz:sz=Jm F t){v:Value}(hv:Ka (F:=F) g w (.Ny id sz off n) v):Ju w g1.I7 (.sl t (sub l off n)) v:=by
 subst hsz;rcases lg hv with⟨hi,rfl,rfl,p,rfl⟩ | ⟨b,c,len,q,hi,h1,h2,h3,h4,rfl⟩
 ·have:sub l 0 0 = []:=by simp[Fx.sub]
  rw[this];exact .sl0 t p
 ·obtain⟨rfl,h5,h7⟩:=bX hm h hi
  have hlen:(sub l off n).length=n:=by simp only[Fx.sub,Lj,Nh];omega
  have key:∀(k:Nat)(d:ND F),(cells F t (sub l off n))[k]? = some d→∃x,w.cell? ⟨b,q+k,none⟩=some x∧Ju w g1.I7 d x:=by
   intro k d hk;rcases h3 with⟨h3,_⟩ | h3
   ·have h0:n=0:=by omega
    subst h0;simp[Fx.sub,cells]at hk
   ·subst h3;obtain⟨x,k1,k2⟩:=h7 _ _ (gJ hk);exact⟨x,k1,k2.le hle⟩
  have:=Ju.sl (F:=F) (w:=w) (I7:=g1.I7) t (sub l off n) b q (c - off) (λk=>(w.cell? ⟨b,q+k,none⟩).getD undef) (Kl b (G.Kt hi)) (by omega) (by omega)
   (λk d hk=>by obtain⟨x,k1,k2⟩:=key k d hk;rw[k1];rfl) (λk d hk=>by obtain⟨x,k1,k2⟩:=key k d hk;rw[k1];exact k2)
  rwa [hlen]at this
theorem ye(hm:Jl own g w m)(hle:Na mm m){x:Kv F}{d:ND F}{ids:List Nat}(h:NZ mm x=some (d,ids)){g1:G}(hg:Le g w g1 w)(Kl:∀id∈ids,∀b,g.blk id b→g1.I7 b){v:Value}(hv:Ka g w x v):Ju w g1.I7 d v:=by
 unfold NZ at h;split at h
 ·cases h;exact(b7 hv).le hg
 ·have hv:=uc hm hle hv;simp only[Te]at hv;unfold Vs at h;split at h
  ·rename_i hrow;cases h
   exact Cj hm (hle _ _ hrow) hg (Kl _ (by simp)) hv
  ·rename_i hrow;cases h
   exact Bf hm (hle _ _ hrow) hg (Kl _ (by simp)) hv
  ·rename_i hrow;cases h;exact(oX hm (hle _ _ hrow) hv).le hg
  ·cases h
 ·split at h
  ·rename_i hrow;split at h
   ·rename_i hsz;cases h
    exact Es hm (hle _ _ hrow) hg (Kl _ (by simp)) hsz hv
   ·cases h
  ·rename_i hrow;split at h
   ·rename_i hsz;cases h;exact(xJ hm (hle _ _ hrow) hsz hv).le hg
   ·cases h
  ·cases h
 ·cases h
def WE(mm:Nat→Option (J8 F))(id:Nat):Prop:=∃t l,mm id=some (.row t l)∨mm id=some (.KR t l)
theorem WE.owned{id:Nat}(h:WE mm id):∃B,mm id=some B∧B.owned=true:=by
 obtain⟨t,l,h | h⟩:=h<;>exact⟨_,h,rfl⟩
theorem wQ{x:Kv F}{d:ND F}{ids:List Nat}(h:NZ mm x=some (d,ids)):∀id∈ids,WE mm id:=by
 unfold NZ at h;split at h
 ·cases h;simp
 ·unfold Vs at h;split at h
  ·rename_i hrow;cases h;intro i hi;rw[I4]at hi;subst hi;exact⟨_,_,.inl hrow⟩
  ·rename_i hrow;cases h;intro i hi;rw[I4]at hi;subst hi;exact⟨_,_,.inr hrow⟩
  ·cases h;simp
  ·cases h
 ·split at h
  ·rename_i hrow;split at h
   ·cases h;intro i hi;rw[I4]at hi;subst hi;exact⟨_,_,.inl hrow⟩
   ·cases h
  ·split at h
   ·cases h;simp
   ·cases h
  ·cases h
 ·cases h
theorem jd{x:Kv F}{r:List (Kv F)}{ds:List (ND F)}{ids:List Nat}(h:bI mm (x::r)=some (ds,ids)) :
  ∃d i ds' j,NZ mm x=some (d,i)∧bI mm r=some (ds',j)∧ds=d::ds'∧ids=i++j:=by
 simp only[bI]at h;split at h
 ·cases h
 ·rename_i d i hd;split at h
  ·cases h
  ·rename_i ds' j hr;cases h;exact⟨d,i,ds',j,hd,hr,rfl,rfl⟩
theorem kh:∀{cs:List (Kv F)} {ds:List (ND F)} {ids:List Nat},bI mm cs=some (ds,ids)→∀id∈ids,WE mm id
 | [],ds,ids,h=>by simp only[bI,K3]at h;cases h;simp
 | x::r,ds,ids,h=>by
  obtain⟨d,i,ds',j,h1,h2,rfl,rfl⟩:=jd h;intro id hid;rcases Mr.1 hid with hid | hid
  ·exact wQ h1 id hid
  ·exact kh h2 id hid
theorem d8:∀{cs:List (Kv F)} {ds:List (ND F)} {ids:List Nat},bI mm cs=some (ds,ids)→ds.length=cs.length
 | [],ds,ids,h=>by simp only[bI,K3]at h;cases h;rfl
 | x::r,ds,ids,h=>by obtain⟨d,i,ds',j,h1,h2,rfl,rfl⟩:=jd h;simp[d8 h2]
theorem fA(hm:Jl own g w m)(hle:Na mm m):∀{cs:List (Kv F)} {ds:List (ND F)} {ids:List Nat},bI mm cs=some (ds,ids)→∀{g1:G},Le g w g1 w→(∀id∈ids,∀b,g.blk id b→g1.I7 b)→
  ∀(vs:List Value),(∀(k:Nat)(x:Kv F)(v:Value),cs[k]? = some x→vs[k]? = some v→Ka g w x v)→∀(k:Nat)(d:ND F)(v:Value),ds[k]? = some d→vs[k]? = some v→Ju w g1.I7 d v
 | [],ds,ids,h,g1,_,_,vs,_,k,d,v,hd,_=>by simp only[bI,K3]at h;cases h;simp at hd
 | x::r,ds,ids,h,g1,hg,Kl,vs,hr,k,d,v,hd,hv=>by
  obtain⟨d',i,ds',j,h1,h2,rfl,rfl⟩:=jd h
  match vs,hv with
  | [],hv=>simp at hv
  | u::us,hv=>
   cases k with
   | zero=>
    simp only[M9,K3]at hd hv;subst hd hv
    exact ye hm hle h1 hg (λid hid=>Kl id (by simp[hid])) (hr 0 x u rfl rfl)
   | succ k=>
    exact fA hm hle h2 hg (λid hid=>Kl id (by simp[hid])) us (λk x v a b=>hr (k+1) x v a b) k d v (by simpa using hd) (by simpa using hv)
def NP(mm:Nat→Option (J8 F))(ids:List Nat):Prop:=
 ∀id∈ids,WE mm id∨(∃cs ds fz,mm id=some (.box cs)∧bI mm cs=some (ds,fz)∧∀x∈fz,x∈ids)∨∃cs,mm id=some (.box cs)∧(0:Nat)=0
theorem NP.MH{ids:List Nat}(h:∀id∈ids,WE mm id):NP mm ids:=λid hid=>.inl (h id hid)
theorem uD{ids:List Nat}{id:Nat}{t:Ty}{l:List (ET F t)}(h:mm id=some (.row t l)):PY mm ids id=some (.OG t l):=by simp[PY,h]
theorem wI{ids:List Nat}{id:Nat}{t:Ty}{l:List (ET F t)}(h:mm id=some (.KR t l)):PY mm ids id=some (.OG t l):=by simp[PY,h]
theorem uf{ids:List Nat}{id:Nat}{cs:List (Kv F)}{B:J8 F}(h:mm id=some (.box cs))(hB:PY mm ids id=some B):∃ds fz,bI mm cs=some (ds,fz)∧(∀x∈fz,x∈ids)∧B = .WC ds:=by
 unfold PY at hB;rw[h]at hB;dsimp only at hB;split at hB
 ·rename_i ds fz hc
  cases ha:fz.all (λx=>Jw x ids)with
  | false=>rw[ha]at hB;cases hB
  | true=>rw[ha]at hB;cases hB;refine⟨ds,fz,hc,λx hx=>?_,rfl⟩;have:=Oe.1 ha x hx;exact aK.1 this
 ·cases hB
theorem gb{ids:List Nat}{x:Nat}:Ki m (S9 mm ids) x=if x∈ids then PY mm ids x else m x:=by
 unfold S9
 have gen:∀(B:Nat→Option (J8 F)) (ids:List Nat) (m:Nat→Option (J8 F)),Ki m (ids.map λid=>(id,B id)) x=if x∈ids then B x else m x:=by
  intro B ids
  induction ids with
  | nil=>intro m;simp[Ki]
  | cons i ids ih=>
   intro m;simp only[K7,Ki,ih,Lr];by_cases h1:x∈ids
   ·simp[h1]
   ·by_cases h2:x=i
    ·subst h2;simp
    ·rw[aj (λe=>h2 e.symm)];simp[h1,h2]
 exact gen (PY mm ids) ids m
theorem freeze(hm:Jl own g w m)(hle:Na mm m){ids:List Nat}(hf:NP mm ids):Jl own (g.Nq ids) w (Ki m (S9 mm ids)):=by
 refine hm.Mv (S:=λid=>id∈ids) (mg g w ids) ?_ (λ_ _=>rfl) ?_ ?_ ?_ ?_ hm.len
 ·intro id hid B hB;rw[gb,if_neg hid]at hB;exact hB
 ·intro id B b hid hB ho hb;refine⟨rfl,?_⟩;rintro(hi | ⟨id',Ld,hb'⟩)
  ·exact(hm.own id B b hB ho hb).2 hi
  ·have Rz:∃B',m id'=some B'∧B'.owned=true:=by
    rcases hf id' Ld with⟨t,l,h | h⟩ | ⟨cs,ds,fz,h,_⟩ | ⟨cs,h,_⟩
    ·exact⟨_,hle _ _ h,rfl⟩
    ·exact⟨_,hle _ _ h,rfl⟩
    ·exact⟨_,hle _ _ h,rfl⟩
    ·exact⟨_,hle _ _ h,rfl⟩
   obtain⟨B',h1,h2⟩:=Rz;have:=hm.OB id id' B B' b hB h1 ho h2 hb hb';subst this;exact hid Ld
 ·intro id B hid hB;rw[gb,if_pos hid]at hB
  have hf':WE mm id∨∃cs,mm id=some (.box cs):=by
   rcases hf id hid with h | ⟨cs,ds,fz,h,_⟩ | ⟨cs,h,_⟩
   ·exact .inl h
   ·exact .inr ⟨_,h⟩
   ·exact .inr ⟨_,h⟩
  rcases hf' with⟨t,l,h | h⟩ | ⟨cs,h⟩
  ·rw[uD h]at hB;cases hB
   refine⟨?_,λb ho=>by cases ho⟩
   rcases hm.ok id _ (hle _ _ h)with⟨k1,k2⟩ | ⟨b,cap,cur,e,k1,k2,k3,k4,k5,k6⟩
   ·exact .inl ⟨k1,k2⟩
   ·obtain⟨_,h4,h7⟩:=bX hm (hle _ _ h) k1
    refine .inr ⟨b,cap,[],k1,by simp[Kr],.inr ⟨id,hid,G.Kt k1⟩,k3,k4,λk d hk=>?_⟩
    obtain⟨x,q1,q2⟩:=h7 k d hk;exact⟨x,q1,q2.le (mg g w ids)⟩
  ·rw[wI h]at hB;cases hB
   refine⟨?_,λb ho=>by cases ho⟩
   obtain⟨pl,k1,k2⟩:=hm.ok id _ (hle _ _ h)
   cases pl with
   | none=>exact .inl ⟨k1,k2⟩
   | some q=>obtain⟨b,cap,n,ns⟩:=q;obtain⟨q1,q2,q3,q4⟩:=wD hm (hle _ _ h) (mg g w ids) (λb hb=>.inr ⟨id,hid,hb⟩) k1;have q1:n=l.length:=q1;subst q1;exact .inr ⟨b,cap,ns,k1,λb' hb'=>.inr ⟨id,hid,b,_,k1,PG _ hb'⟩,.inr ⟨id,hid,G.Kt k1⟩,q2,q3,q4⟩
  ·obtain⟨ds,fz,hc,hfz,rfl⟩:=uf h hB
   refine⟨?_,λb ho=>by cases ho⟩
   obtain⟨b,c,arr,t,k1,k2,k3,k4⟩:=hm.ok id _ (hle _ _ h);refine⟨b,c,k1,.inr ⟨id,hid,G.Kt k1⟩,λk d hk=>?_⟩
   have hlt:k<arr.length:=by rw[k3,← d8 hc];exact(I0.1 hk).1
   refine⟨arr[k],by simp[World.cell?,k2,hlt],?_⟩
   exact fA hm hle hc (mg g w ids) (λid' Ld b' hb'=>.inr ⟨id',hfz id' Ld,hb'⟩) arr k4 k d _ hk (IZ hlt)
 ·rintro b (hb | ⟨id,hid,hb⟩)
  ·exact hm.I7 b hb
  ·rcases hf id hid with⟨t,l,h | h⟩ | ⟨cs,ds,fz,h,_⟩ | ⟨cs,h,_⟩
   ·exact(hm.ok id _ (hle _ _ h)).place hm.I7 rfl hb
   ·exact(hm.ok id _ (hle _ _ h)).place hm.I7 rfl hb
   ·exact(hm.ok id _ (hle _ _ h)).place hm.I7 rfl hb
   ·exact(hm.ok id _ (hle _ _ h)).place hm.I7 rfl hb
 ·rintro b (hb | ⟨id,hid,hb⟩)
  ·exact hm.io b hb
  ·rcases hf id hid with⟨t,l,h | h⟩ | ⟨cs,ds,fz,h,_⟩ | ⟨cs,h,_⟩
   ·exact .inr (hm.own id _ b (hle _ _ h) rfl hb).1
   ·exact .inr (hm.own id _ b (hle _ _ h) rfl hb).1
   ·exact .inr (hm.own id _ b (hle _ _ h) rfl hb).1
   ·exact .inr (hm.own id _ b (hle _ _ h) rfl hb).1
theorem G9(hle:Na mm m){ids:List Nat}(hf:NP mm ids)(hs:Stp (Ki m (S9 mm ids)) (g.Nq ids) w g' w'):Stp m g w g' w':=by
 refine⟨(mg g w ids).trans hs.le,hs.os,hs.tape,hs.output,hs.size,λb hb hno=>hs.frame b hb (λid B hB ho hk=>?_),hs.drawn⟩;rw[gb]at hB;split at hB
 ·rename_i hid;rcases hf id hid with⟨t,l,h | h⟩ | ⟨cs,ds,fz,h,hc,_⟩ | ⟨cs,h,hc⟩
  ·rw[uD h]at hB;cases hB;cases ho
  ·rw[wI h]at hB;cases hB;cases ho
  ·obtain⟨ds,fz,_,_,rfl⟩:=uf h hB;cases ho
  ·obtain⟨ds,fz,_,_,rfl⟩:=uf h hB;cases ho
 ·exact hno id B hB ho hk
theorem xK{u:Nat→Bool}{a:Act}{ids:List Nat}{res:Oy F}(hle:Na mm m)(hf:NP mm ids)(h:M8 P own (Ki m (S9 mm ids)) u (g.Nq ids) w o a c res) :
  M8 P own m u g w o a c { res with mw:=S9 mm ids++res.mw }:=by
 intro next Q hn;refine h next Q ?_;intro v w' g' h1 h2 h3 h4
 exact hn v w' g' h1 (by rw[dC];exact h2) (G9 hle hf h3) h4
def G.name(g:G)(id:Nat)(p:Pl):G:=⟨λx=>if x=id then some p else g.ids x,g.I7,g.len⟩
theorem a9(g:G)(id:Nat)(p:Pl):(g.name id p).ids id=some p:=by simp[G.name]
theorem bE(g:G)(id:Nat)(p:Pl){x:Nat}(h:x≠id):(g.name id p).ids x=g.ids x:=by simp[G.name,h]
theorem Le.name{id:Nat}{p:Pl}(hf:g.ids id=none)(hh:∀b,g.I7 b→w'.heap[b]? = w.heap[b]?)(hL:∀b,g.len b→w'.heap[b]? = w.heap[b]?):Le g w (g.name id p) w':=by
 refine⟨?_,λ_ h=>h,hh,λ_ h=>h,hL⟩;intro x r hx;by_cases hxi:x=id
 ·subst hxi;rw[hf]at hx;cases hx
 ·rw[bE g id p hxi];exact hx
theorem pu{rm:List Nat}{id:Nat}{B:J8 F}{x:Nat}(hx:x≠id){B':J8 F}(h:Ki m (rm.map (λr=>(r,none))++[(id,some B)]) x=some B'):m x=some B'∧x∉rm:=by
 rw[pn,if_neg hx]at h
 have gen:∀(rm:List Nat)(m:Nat→Option (J8 F)),Ki m (rm.map (λr=>(r,none))) x=some B'→m x=some B'∧x∉rm:=by
  intro rm
  induction rm with
  | nil=>intro m h;exact⟨h,by simp⟩
  | cons r rm ih=>
   intro m h;obtain⟨h1,h2⟩:=ih _ h;by_cases hr:r=x
   ·subst hr;rw[if_pos (ba r)]at h1;cases h1
   ·rw[if_neg (by rw[aj hr];simp)]at h1
    exact⟨h1,λhx=>by rcases Lr.1 hx with h | h;exact hr h.symm;exact h2 h⟩
 exact gen rm m h
theorem gj(hm:Jl own g w m){rm:List Nat}{id:Nat}{pl:Pl}{B:J8 F}(hf:g.ids id=none)
  (hpl:∀b0 c,pl=some (b0,c)→∀b∈b0::Kr c.2.2,(w.heap.size≤b∧b<w'.heap.size∧own.o b)∨∃r∈rm,∃B0,m r=some B0∧B0.owned=true∧g.blk r b)
  (ho:w'.os=w.os) (ht:w'.tape=w.tape) (hou:w'.output=w.output) (hdr:w.drawn≤w'.drawn) (hs:w.heap.size≤w'.heap.size)
  (hne:∀b,b<w.heap.size→(∀r∈rm,∀B0,m r=some B0→B0.owned=true→¬ g.blk r b)→w'.heap[b]? = w.heap[b]?)
  (hB:∀g',Le g w g' w'→g'.ids id=some pl→KQ g' w' id B) :
  Jl own (g.name id pl) w' (Ki m (rm.map (λr=>(r,none))++[(id,some B)]))∧Stp m g w (g.name id pl) w':=by
 have hle:Le g w (g.name id pl) w':=.name hf (λb hb=>hne b (hm.I7 b hb) (λr _ B0 h1 h2 h3=>(hm.own r B0 b h1 h2 h3).2 hb)) (λb hb=>hne b (hm.len b hb).2 (λr _ B0 h1 h2 h3=>(hm.len b hb).1 (hm.own r B0 b h1 h2 h3).1));refine⟨?_,hle,ho,ht,hou,hs,λb hb hno=>hne b hb (λr _ B0 h1 h2=>hno r B0 h1 h2),hdr⟩;refine hm.Mv (S:=λx=>x=id∨x∈rm) hle (λx hx B' h=>(pu (λe=>hx (.inl e)) h).1) (λx hx=>bE _ _ _ (λe=>hx (.inl e))) ?_ ?_ (λb hb=>O8 (hm.I7 b hb) hs) hm.io (λb hb=>⟨(hm.len b hb).1,O8 (hm.len b hb).2 hs⟩)
 ·intro x Bx b hx hB' ho' hb;refine⟨hne b ((hm.ok x Bx hB').place hm.I7 (J8.MX ho') hb) ?_,(hm.own x Bx b hB' ho' hb).2⟩;intro r hr B0 h1 h2 h3;have:=hm.OB x r Bx B0 b hB' h1 ho' h2 hb h3;subst this;exact hx (.inr hr)
 ·intro x B' hx hB'
  have anF:x=id:=by
   by_cases hxi:x=id
   ·exact hxi
   ·rcases hx with hx | hx
    ·exact hx
    ·exact absurd hx (pu hxi hB').2
  subst anF;rw[pn,if_pos rfl]at hB';cases hB';refine⟨hB _ hle (a9 _ _ _),?_⟩;rintro b Zv ⟨b0,c',hc',hbb⟩;rw[a9]at hc';cases hc';rcases hpl b0 c' rfl b hbb with⟨h1,h2,h3⟩ | ⟨r,hr,B0,h1,h2,h3⟩
  ·refine⟨h3,λhb=>?_,?_⟩
   ·have:b<w.heap.size:=hm.I7 b hb;omega
   ·rintro y By hy hoy hby;by_cases hyx:y=x
    ·exact hyx
    ·have aap:g.blk y b:=by
      obtain⟨b1,c1,k1,k2⟩:=hby;rw[bE _ _ _ hyx]at k1;exact⟨b1,c1,k1,k2⟩
     have:=(hm.ok y By (pu hyx hy).1).place hm.I7 (J8.MX hoy) aap;omega
  ·refine⟨(hm.own r B0 b h1 h2 h3).1,(hm.own r B0 b h1 h2 h3).2,?_⟩;rintro y By hy hoy hby;by_cases hyx:y=x
   ·exact hyx
   ·have aap:g.blk y b:=by
     obtain⟨b1,c1,k1,k2⟩:=hby;rw[bE _ _ _ hyx]at k1;exact⟨b1,c1,k1,k2⟩
    obtain⟨q1,q2⟩:=pu hyx hy;have:=hm.OB y r By B0 b q1 h1 hoy h2 aap h3;subst this;exact absurd hr q2
theorem made(hm:Jl own g w m){rm:List Nat}{id:Nat}{cn:Nat×Nat}{arr:List Value}{t:TypeId}{B:J8 F}(hf:g.ids id=none)(hown:own.o w.heap.size){w1:World}(hw1:w1.heap=w.heap)(ho:w1.os=w.os)(ht:w1.tape=w.tape)(hou:w1.output=w.output)(hdr:w.drawn≤w1.drawn)
  (hB:∀g' w',Le g w g' w'→g'.ids id=some (some (w.heap.size,cn.1,cn.2,[]))→w'.heap[w.heap.size]? = some (.cells ⟨arr⟩ t (0,0))→KQ g' w' id B) :
  Jl own (g.name id (some (w.heap.size,cn.1,cn.2,[]))) (w1.alloc (.cells ⟨arr⟩ t)) (Ki m (rm.map (λr=>(r,none))++[(id,some B)]))∧Stp m g w (g.name id (some (w.heap.size,cn.1,cn.2,[]))) (w1.alloc (.cells ⟨arr⟩ t)):=by
 have hold:∀b,b<w.heap.size→(w1.alloc (.cells ⟨arr⟩ t)).heap[b]? = w.heap[b]?:=by
  intro b hb
  have:=heap_alloc_old w1 (.cells ⟨arr⟩ t) b (by rw[hw1];exact hb)
  rw[this,hw1]
 have hnew:(w1.alloc (.cells ⟨arr⟩ t)).heap[w.heap.size]? = some (.cells ⟨arr⟩ t (0,0)):=by have:=heap_alloc_new w1 (.cells ⟨arr⟩ t);rw[hw1]at this;exact this
 have hsz:(w1.alloc (.cells ⟨arr⟩ t)).heap.size=w.heap.size+1:=by rw[World.size_alloc,hw1]
 refine gj hm hf ?_ ho ht hou hdr (by omega) (λb hb _=>hold b hb) (λg' hle hi=>hB g' _ hle hi hnew)
 intro b0 c e b hb;cases e;simp only[Kr,I4]at hb;subst hb
 exact .inl ⟨KC _,by omega,hown⟩
theorem moved(hm:Jl own g w m){rm id b:Nat}{cn:Nat×Nat×NS}{RY:Nat×Nat}{w':World}{B0 B:J8 F}(hf:g.ids id=none)(h0:m rm=some B0)(ho0:B0.owned=true)(hi:g.ids rm=some (some (b,cn)))
  (ho:w'.os=w.os) (ht:w'.tape=w.tape) (hou:w'.output=w.output) (hdr:w.drawn≤w'.drawn) (hs:w'.heap.size=w.heap.size) (hne:∀b',b'≠b→w'.heap[b']? = w.heap[b']?)
  (hB:∀g',Le g w g' w'→g'.ids id=some (some (b,RY.1,RY.2,[]))→KQ g' w' id B) :
  Jl own (g.name id (some (b,RY.1,RY.2,[]))) w' (Ki m [(rm,none),(id,some B)])∧Stp m g w (g.name id (some (b,RY.1,RY.2,[]))) w':=by
 refine gj (rm:=[rm]) hm hf ?_ ho ht hou hdr (by omega) ?_ hB
 ·intro b0 c e b' hb;cases e;simp only[Kr,I4]at hb;subst hb
  exact .inr ⟨rm,by simp,B0,h0,ho0,G.Kt hi⟩
 ·intro b' hb hno
  exact hne b' (λe=>hno rm (by simp) B0 h0 ho0 (e▸G.Kt hi))
theorem En(hm:Jl own g w m){rm:List Nat}{id:Nat}{t:Ty}(hf:g.ids id=none) :
  Jl own (g.name id none) w (Ki m (rm.map (λr=>(r,none))++[(id,some (.row t []))]))∧Stp m g w (g.name id none) w:=by
 have hle:Le g w (g.name id none) w:=.name hf (λ_ _=>rfl) (λ_ _=>rfl)
 have less:∀x,x≠id→∀B',Ki m (rm.map (λr=>(r,none))++[(id,some (.row t []))]) x=some B'→m x=some B':=by
  intro x hx B' h;rw[pn,if_neg hx]at h
  have gen:∀(rm:List Nat)(m:Nat→Option (J8 F)),Ki m (rm.map (λr=>(r,none))) x=some B'→m x=some B':=by
   intro rm
   induction rm with
   | nil=>intro m h;exact h
   | cons r rm ih=>
    intro m h;have:=ih _ h;split at this
    ·cases this
    ·exact this
  exact gen rm m h
 refine⟨?_,hle,rfl,rfl,rfl,KC _,λ_ _ _=>rfl,KC _⟩;refine hm.Mv (S:=λx=>x=id) hle less (λx hx=>bE _ _ _ hx) ?_ ?_ hm.I7 hm.io hm.len
 ·intro x Bx b hx hB' ho' hb;exact⟨rfl,(hm.own x Bx b hB' ho' hb).2⟩
 ·rintro x B' rfl hB';rw[pn,if_pos rfl]at hB';cases hB';refine⟨.inl ⟨a9 _ _ _,rfl⟩,?_⟩;rintro b _ ⟨b0,c',hc',_⟩;rw[a9]at hc';cases hc'
theorem y8(hm:Jl own g w m){id b:Nat}{old arr:List Value}{t:TypeId}{B B':J8 F}(hB:m id=some B)(ho:B.owned=true)(hblk:g.blk id b)(hb:w.heap[b]? = some (.cells ⟨old⟩ t (0,0)))
  (hB':(w.setRow b ⟨arr⟩).heap[b]? = some (.cells ⟨arr⟩ t (0,0))→Le g w g (w.setRow b ⟨arr⟩)→KQ g (w.setRow b ⟨arr⟩) id B') :
  Jl own g (w.setRow b ⟨arr⟩) (Ki m [(id,some B')])∧Stp m g w g (w.setRow b ⟨arr⟩):=by
 have hne:∀b',b'≠b→(w.setRow b ⟨arr⟩).heap[b']? = w.heap[b']?:=λb' h=>setRow_other w b b' _ h;have Sy:¬ g.I7 b:=(hm.own id B b hB ho hblk).2;have hle:Le g w g (w.setRow b ⟨arr⟩):=⟨λ_ _ h=>h,λ_ h=>h,λb' hb'=>hne b' (λe=>Sy (e▸hb')),λ_ h=>h,λb' hb'=>hne b' (λe=>(hm.len b' hb').1 (e▸(hm.own id B b hB ho hblk).1))⟩
 have less:∀x,x≠id→∀Bx,Ki m [(id,some B')] x=some Bx→m x=some Bx:=by intro x hx Bx h;simp only[Ki]at h;rw[aj (λe=>hx e.symm)]at h;simpa using h
 refine⟨?_,hle,rfl,rfl,rfl,by simp,?_,KC _⟩
 ·refine hm.Mv (S:=λx=>x=id) hle less (λ_ _=>rfl) ?_ ?_ ?_ hm.io (λb' hb'=>⟨(hm.len b' hb').1,by rw[size_setRow];exact(hm.len b' hb').2⟩)
  ·intro x Bx b' hx hBx hox hbx;refine⟨hne b' (λe=>hx ?_),(hm.own x Bx b' hBx hox hbx).2⟩;subst e;exact hm.OB x id Bx B b' hBx hB hox ho hbx hblk
  ·rintro x Bx rfl hBx;simp only[Ki,ba,if_true,K3]at hBx;subst hBx;refine⟨hB' (setRow_heap w b _ _ t _ hb) hle,?_⟩;rintro b' Zv hb';refine⟨(hm.own x B b' hB ho hb').1,(hm.own x B b' hB ho hb').2,?_⟩;intro y By hy hoy hby;by_cases hyx:y=x
   ·exact hyx
   ·exact hm.OB y x By B b' (less y hyx By hy) hB hoy ho hby hb'
  ·intro b' hb';rw[size_setRow];exact hm.I7 b' hb'
 ·intro b' _ hno;exact hne b' (λe=>hno id B hB ho (e▸hblk))
theorem sD(hm:Jl own g w m){id b:Nat}{cn:Nat×Nat×NS}{old arr:List Value}{t:TypeId}{B B':J8 F}(hB:m id=some B)(ho:B.owned=true)(hi:g.ids id=some (some (b,cn)))(hb:w.heap[b]? = some (.cells ⟨old⟩ t (0,0)))
  (hB':(w.setRow b ⟨arr⟩).heap[b]? = some (.cells ⟨arr⟩ t (0,0))→Le g w g (w.setRow b ⟨arr⟩)→KQ g (w.setRow b ⟨arr⟩) id B') :
  Jl own g (w.setRow b ⟨arr⟩) (Ki m [(id,some B')])∧Stp m g w g (w.setRow b ⟨arr⟩):=y8 hm hB ho (G.Kt hi) hb hB'
end
set_option linter.unusedVariables false
set_option linter.unusedSimpArgs false
section
variable{F:Fam}{P:Program}{T:TypeId→Option (TI F)}{o:Oper}{vals:List (Dat F)}{mm:Nat→Option (J8 F)}{c:Nat}{R:Type}{K:Oy F→Option R}{own:Ow}{g g':G}{w w':World}{m m':Nat→Option (J8 F)}{u:Nat→Bool}{a:Act}
theorem mF(hm:Jl own g w m)(hd:∀id,u id=false→g.ids id=none)(hall:∀b,w.heap.size≤b→own.o b)(hfr:u c=false)
  {cn:Nat×Nat} {arr:List Value} {t:TypeId} {B:J8 F} {rm:List Nat} {d:Dat F} {w1:World} {v:Value} (hw1:w1.heap=w.heap) (ho:w1.os=w.os) (ht:w1.tape=w.tape) (hou:w1.output=w.output) (hdr:w.drawn≤w1.drawn)
  (hv:∀g' w',g'.ids c=some (some (w.heap.size,cn.1,cn.2,[]))→J4 P g' w' d v)
  (hB:∀g' w',Le g w g' w'→g'.ids c=some (some (w.heap.size,cn.1,cn.2,[]))→w'.heap[w.heap.size]? = some (.cells ⟨arr⟩ t (0,0))→KQ g' w' c B)
  (hrun:(execOp a.eval o).run P w = .ok (.value v) (w1.alloc (.cells ⟨arr⟩ t))):M8 P own m u g w o a c { val:=d,mw:=rm.map (λr=>(r,none))++[(c,some B)],nu:=1 }:=by
 have hf:g.ids c=none:=hd c hfr;obtain⟨k1,k2⟩:=made (rm:=rm) (cn:=cn) hm hf (hall _ (KC _)) hw1 ho ht hou hdr hB;intro next Q hn;unfold Oper.wp;rw[hrun];refine hn _ _ (g.name c (some (w.heap.size,cn.1,cn.2,[]))) (hv _ _ (a9 _ _ _)) k1 k2 ?_;intro x hu hx;have hx:x<c∨c+1≤x:=hx
 have:x≠c:=by omega
 rw[bE _ _ _ this];exact hd x hu
theorem sF{I7:Nat→Prop}{cs ds:List (ND F)}(h:OT cs ds){arr:List Value}(hr:∀(k:Nat)(d:ND F)(x:Value),cs[k]? = some d→arr[k]? = some x→Ju w I7 d x) :
  ∀(k:Nat)(d:ND F)(x:Value),ds[k]? = some d→arr[k]? = some x→Ju w I7 d x:=by
 intro k d x hd hx
 have hlt:k<cs.length:=by rw[h.1];exact(I0.1 hd).1
 exact(hr k _ x (IZ hlt) hx).Un (h.2 k _ d (IZ hlt) hd)
theorem j8{cs ds cs' ds':List (ND F)}(h:OT cs ds)(h':OT cs' ds'):OT (cs++cs') (ds++ds'):=by
 refine⟨by simp[h.1,h'.1],?_⟩
 intro k x y hx hy;by_cases hk:k<cs.length
 ·rw[ME hk]at hx
  rw[ME (by rw[← h.1];exact hk)]at hy
  exact h.2 k x y hx hy
 ·rw[Nj (by omega)]at hx
  rw[Nj (by rw[← h.1];omega),← h.1]at hy
  exact h'.2 _ x y hx hy
theorem lW{tt:Ty}{sz:Nat}(hs:Jm F tt=sz):∀{n:Nat}{ds:List (ND F)} {l:List (ET F tt)},je tt sz n ds=some l→ds.length=n*sz→l.length=n∧OT ds (cells F tt l)
 | 0,ds,l,h,hl=>by
  simp only[je,K3]at h;subst h
  have:ds = []:=O9 (by simpa using hl)
  subst this
  exact⟨rfl,rfl,by simp⟩
 | n+1,ds,l,h,hl=>by
  simp only[je]at h;split at h
  ·cases h
  ·rename_i x hx;split at h
   ·cases h
   ·rename_i r hr;cases h
    have hlen:(ds.drop sz).length=n*sz:=by rw[Nh,hl,Ro];omega
    obtain⟨h1,h2⟩:=lW hs hr hlen
    refine⟨by simp[h1],?_⟩
    have:=j8 (bK F hx) h2;rw[Uw]at this;simpa[cells]using this
theorem Ej(hT:J5 P T)(hm:Jl own g w m)(hle:Na mm m)(hd:∀id,u id=false→g.ids id=none)(hall:∀b,w.heap.size≤b→own.o b)(hfr:u c=false){elem:TypeId}{cs:List (Kv F)}{v:Value}
  (hl:v.cells.toList.length=cs.length) (hr:∀(k:Nat)(x:Kv F)(y:Value),cs[k]? = some x→v.cells.toList[k]? = some y→Ka g w x y)
  (hrun:(execOp a.eval o).run P w = .ok (.value (.pointer (some ⟨w.heap.size,0,none⟩))) (w.alloc (.cells v.cells elem))):M8 P own m u g w o a c { val:=.c (.ptr c 0),mw:=[(c,some (.box cs))],nu:=1 }:=by
 refine mF (rm:=[]) (cn:=(0,0)) (arr:=v.cells.toList) (t:=elem) hm hd hall hfr (w1:=w) rfl rfl rfl rfl (KC _) (λg' w' hi=>.c (.ptr hi)) ?_ hrun;intro g' w' hle hi hh;exact⟨w.heap.size,(0,0),v.cells.toList,elem,hi,hh,hl,λk c x h1 h2=>(hr k c x h1 h2).le hle⟩
theorem wZ(hT:J5 P T){elem:TypeId}{cs:List (Kv F)}
  (hsrc:cs.all Kv.NA=true→0<cs.length→∀(g:G)(w:World)(a:Act),Kq P g w vals (o.op.operands.toList.map a.eval)→∃v:Value,v.cells.toList.length=cs.length∧
   (∀(k:Nat)(x:Kv F)(y:Value),cs[k]? = some x→v.cells.toList[k]? = some y→Ka g w x y)∧(execOp a.eval o).run P w = .ok (.value (.pointer (some ⟨w.heap.size,0,none⟩))) (w.alloc (.cells v.cells elem))) :
  Rule P o vals mm c K (Uz T mm c K elem cs):=by
 unfold Uz;split
 ·exact ah
 ·rename_i ti hti;refine au (λhc=>?_) (λ_=>ah);simp only[KV,decide_eq_true_eq,M4]at hc;obtain⟨⟨h1,h2⟩,h3⟩:=hc;have src:=hsrc h2 h3
  have aoT:Rule P o vals mm c K (K { val:=.c (.ptr c 0),mw:=[(c,some (.box cs))],nu:=1 }):=by
   intro r hr;refine⟨_,hr,?_⟩;intro own g w a m u hle hm hd hall hfr hrep;obtain⟨v,k1,k2,k3⟩:=src g w a hrep
   exact Ej hT hm hle hd hall (hfr 0 (by simp)) k1 k2 k3
  split
  ·rename_i len e hde;split
   ·exact ah
   ·rename_i te hte;split
    ·exact ah
    ·rename_i tt RI;split
     ·exact ah
     ·rename_i ds fz hds;split
      ·exact ah
      ·rename_i l hl;refine au (λ_=>ah) (λhc=>?_);simp only[PE,decide_eq_true_eq,bne_iff_ne,ne_eq,not_or,Decidable.not_not,Rp,QeG]at hc;obtain⟨⟨⟨⟨c1,c2⟩,c3⟩,c4⟩,c5⟩:=hc
       have c4:=P9 (by simpa using c4)
       have c5:fz = []:=by simpa using c5
       subst c5;intro r hr;refine⟨_,hr,?_⟩;intro own g w a m u hle hm hd hall hfr hrep;obtain⟨v,k1,k2,k3⟩:=src g w a hrep;obtain⟨q1,q2⟩:=lW c3 hl c2
       refine mF (rm:=[]) (cn:=(len,l.length)) (arr:=v.cells.toList) (t:=elem) hm hd hall (hfr 0 (by simp)) (w1:=w) rfl rfl rfl rfl (KC _) (λg' w' hi=>.c (.ptr hi)) ?_ k3
       intro g' w' hle' hi hh
       refine .inr ⟨w.heap.size,len,v.cells.toList,elem,hi,hh,by omega,by simp only[maxLen];omega,?_,?_⟩
       ·rw[k1,← d8 hds,c2,c3]
       ·intro k d x h4 h5
        exact(sF q2 (fA hm hle hds (Le.refl g w) (by simp) v.cells.toList k2) k d x h4 h5).le hle'
  ·exact aoT
theorem B8(hT:J5 P T){elem:TypeId}(ho:o.op = .alloc elem):Rule P o vals mm c K (match T elem with | some ti=>Uz T mm c K elem (ti.zero.map .im) | none=>none):=by
 split
 ·rename_i ti hti;refine wZ hT ?_;intro _ _ g w a _;obtain⟨j,z,hj,hz,hzl,WQ⟩:=vn hT hti
  exact⟨z,hzl,WQ w g,by simp[execOp,ho,Instr.alloc,zeroValue,typeInfo,hj,hz,newVar,newRow]⟩
 ·exact ah
theorem FH(hT:J5 P T){elem:TypeId}{x:Operand}(ho:o.op = .box elem x):Rule P o vals mm c K (match vals with | [x]=>Uz T mm c K elem x.cells | _=>none):=by
 split
 ·rename_i d;refine wZ hT ?_;intro h1 h2 g w a hr;rw[ho]at hr;obtain⟨k1,k2,_⟩:=ia (KY hr) h1 h2
  exact⟨a.eval x,k1,k2,by simp[execOp,ho,Instr.box,newVar,newRow]⟩
 ·exact ah
theorem cS{α : Type}(l:List α)(h0:0<l.length):∀(n k:Nat),k<n*l.length→(List.replicate n l).flatten[k]? = l[k % l.length]?
 | 0,k,h=>by omega
 | n+1,k,h=>by
  simp only[List.replicate_succ,U9];by_cases hk:k<l.length
  ·rw[ME hk,Nat.mod_eq_of_lt hk]
  ·have hb:k - l.length<n*l.length:=by rw[Ro]at h;omega
   rw[Nj (by omega),cS l h0 n (k - l.length) hb]
   congr 1
   exact(Nat.mod_eq_sub_mod (by omega)).symm
theorem oY(hT:J5 P T){e:TypeId}{te:TI F}(he:T e=some te)(h0:0<te.size)(n:Nat):∃(j:TypeInfo)(z:Value),P.info? e=some j∧j.size=te.size∧j.bytes=te.bytes∧j.zero=some z∧z.cells.size=te.size∧
  (madeCells z.cells (n*te.size)).toList.length=(List.replicate n te.zero).flatten.length∧te.zero.length=te.size∧
  ∀(w:World)(I7:Nat→Prop)(k:Nat)(d:ND F) (x:Value),(List.replicate n te.zero).flatten[k]? = some d→(madeCells z.cells (n*te.size)).toList[k]? = some x→Ju w I7 d x:=by
 obtain⟨j,hj,hs,hb,z,hz,hzs,hzl,hr⟩:=hT.info e te he
 have hfl:(List.replicate n te.zero).flatten.length=n*te.size:=by
  rw[qB (sz:=te.size) (λx hx=>by rw[QeX]at hx;rw[hx.2,hzl])]
  simp
 refine⟨j,z,hj,hs,hb,hz,hzs,by rw[hfl];simp[madeCells],hzl,?_⟩
 intro w I7 k d x h1 h2
 have hk:k<n*te.size:=by rw[← hfl];exact(I0.1 h1).1
 rw[cS te.zero (by omega) n k (by rw[hzl];exact hk),hzl]at h1
 simp only[madeCells,Array.toList_map,MU,Array.toList_range]at h2;rw[QeT hk]at h2;simp only[S_,K3]at h2
 have hlt:k % te.size<z.cells.size:=by rw[hzs];exact Nat.mod_lt _ h0
 rw[hzs,getElem!_pos z.cells (k % te.size) hlt]at h2
 exact hr w I7 (k % te.size) d x h1 (by rw[QcY hlt,h2])
theorem IT{α : Type}{b:Nat}{n m:Int}{z:α}{r:List α}(h:P7 b n m z=some r):0≤n∧n≤m∧m.toNat≤maxLen∧b*m.toNat≤281474976710656∧r=List.replicate n.toNat z:=by
 unfold P7 at h;split at h
 ·rename_i hc;cases h;exact⟨hc.1,hc.2.1,hc.2.2.1,hc.2.2.2,rfl⟩
 ·cases h
theorem wP(hT:J5 P T){t:TypeId}{x y:Operand}(ho:o.op = .makeSlice t x y):Rule P o vals mm c K (TH T vals c K t):=by
 unfold TH;split
 ·rename_i e _ _ _ _ _ ht;split
  ·exact ah
  ·rename_i te hte;split
   ·exact ah
   ·rename_i tt RI;refine au (λ_=>ah) (λhz0=>?_);split
    ·rename_i k n k' n' zz hzz;refine aC λl hl=>?_;obtain⟨v1,v2,v3,v4,rfl⟩:=IT hl;intro r hr;refine⟨_,hr,?_⟩;intro own g w a m u hle hm hd hall hfr hrep;rw[ho]at hrep;simp only[Op.operands,K7,LG]at hrep;obtain⟨h1,h2⟩:=KM hrep
     obtain⟨j,z,hj,hs,hb,hz,hzs,hml,hzl,hmr⟩:=oY hT hte (by omega) n'.toNat
     have hn:(n'.toNat:Int)=n':=QeI (by omega)
     have hb6:(j.bytes:Int)*n'≤281474976710656:=by rw[hb,← hn,← QeL];omega
     have hm63:n'≤9223372036854775807:=by have h:=v3;simp only[maxLen]at h;omega
     have hrun:=run_make (P:=P) w t e j z (hT.und _ _ ht) hj hz k k' n n' v1 v2 hb6 hm63;rw[hs]at hrun;have hsz:=hT.ty e te tt hte RI
     refine mF (rm:=[]) (cn:=(n'.toNat,n.toNat)) (arr:=(madeCells z.cells (n'.toNat*te.size)).toList) (t:=e) hm hd hall (hfr 0 (by simp)) (w1:=w) rfl rfl rfl rfl (KC _) ?_ ?_ (v:=.slice (some ⟨w.heap.size,0,none⟩) n.toNat n'.toNat) ?_
     ·intro g' w' hi
      exact .c (.KU hi (by omega) v3)
     ·intro g' w' hle' hi hh
      refine .inr ⟨w.heap.size,n'.toNat,_,e,by simpa using hi,hh,by simp;omega,v3,by simp[madeCells,hsz],?_⟩
      have hz2:OT te.zero (Jj F tt zz):=bK F hzz;intro k d x h3 h4
      have hlen:(cells F tt (List.replicate n.toNat zz)).length=n.toNat*Jm F tt:=by rw[aD,List.length_replicate]
      have hk:k<n.toNat*Jm F tt:=by rw[← hlen];exact(I0.1 h3).1
      have hlz:(Jj F tt zz).length=te.size:=by rw[aT,hsz]
      have e1:(cells F tt (List.replicate n.toNat zz))=(List.replicate n.toNat (Jj F tt zz)).flatten:=by simp[cells]
      rw[e1,cS _ (by rw[hlz];omega) n.toNat k (by rw[hlz,← hsz];exact hk),hlz]at h3
      have hk2:k<n'.toNat*te.zero.length:=by
       rw[hzl];rw[hsz]at hk
       have:n.toNat*te.size≤n'.toNat*te.size:=M5 _ (by omega)
       omega
      have hk3:k % te.size<te.zero.length:=by rw[hzl];exact Nat.mod_lt _ (by omega)
      have e2:(List.replicate n'.toNat te.zero).flatten[k]? = some te.zero[k % te.size]:=by
       rw[cS te.zero (by omega) n'.toNat k hk2,hzl,IZ hk3]
      exact(hmr _ _ k _ x e2 h4).Un (hz2.2 (k % te.size) _ d (IZ hk3) h3)
     ·simp only[execOp,ho,bG h1,bG h2,LM,hrun,L8,MO]
    ·exact ah
 ·exact ah
theorem Bz{t:TypeId}{x y:Operand}{n:Nat}(h:p9 T t x y=some n):∃ti e k1 k2 b d q z,T t=some ti∧ti.desc = .slice e∧x = .const (.int k1 n)∧y = .const (.int k2 n)∧T e=some ⟨.slice d,1,b,[.nl],q,z⟩∧0<n∧n≤8∧b≤1000:=by
 unfold p9 at h;split at h
 ·rename_i e _ _ _ _ _ n' m' ht hx hy;split at h
  ·rename_i d b q z he;split at h
   ·rename_i hc;obtain⟨rfl,h1,h2,h3⟩:=hc;cases h
    have lit:∀{x:Operand}{n:Nat},Xj x=some n→∃k,x = .const (.int k n):=by
     intro x n hx;unfold Xj at hx;split at hx
     ·cases hx;exact⟨_,rfl⟩
     ·cases hx
    obtain⟨k1,e1⟩:=lit hx;obtain⟨k2,e2⟩:=lit hy;exact⟨_,e,k1,k2,b,d,q,z,ht,rfl,e1,e2,he,h1,h2,h3⟩
   ·cases h
  ·cases h
 ·cases h
theorem Bw(hT:J5 P T){t:TypeId}{x y:Operand}(ho:o.op = .makeSlice t x y){n:Nat}(hn:p9 T t x y=some n):Rule P o vals mm c K (Cu c K n):=by
 obtain⟨ti,e,k1,k2,b,d,q,zz,ht,hde,rfl,rfl,hte,n1,n2,n3⟩:=Bz hn;have hu:=hT.und _ _ ht;rw[hde]at hu;intro r hr;refine⟨_,hr,?_⟩;intro own g w a m u hle hm hd hall hfr hrep
 obtain⟨j,z,hj,hs,hb,hz,hzs,hml,hzl,hmr⟩:=oY hT hte (by simp) n
 have hs:j.size=1:=hs;have hb:j.bytes=b:=hb
 have hb6:(j.bytes:Int)*(n:Int)≤281474976710656:=by rw[hb,← QeL];have:b*n≤1000*8:=WW n3 n2;omega
 have hrun:=run_make (P:=P) w t e j z hu hj hz k1 k2 n n (by omega) (Int.le_refl _) hb6 (by omega)
 rw[hs]at hrun;simp only[Ut,Nat.mul_one]at hrun
 have hml':(madeCells z.cells n).toList.length=n:=by simp[madeCells]
 refine mF (rm:=[]) (cn:=(0,0)) (arr:=(madeCells z.cells n).toList) (t:=e) hm hd hall (hfr 0 (by simp)) (w1:=w) rfl rfl rfl rfl (KC _) ?_ ?_ (v:=.slice (some ⟨w.heap.size,0,none⟩) n n) ?_
 ·intro g' w' hi
  exact .c (.O6 hi (by simp only[maxLen];omega))
 ·intro g' w' hle' hi hh
  refine⟨w.heap.size,(0,0),_,e,hi,hh,by rw[hml'];simp,?_⟩
  intro k cc v h1 h2;rw[List.getElem?_replicate]at h1;split at h1
  ·rename_i hk;cases h1
   have e2:(List.replicate n ([.nl]:List (ND F))).flatten[k]? = some .nl:=by
    rw[cS _ (by simp) n k (by simpa using hk)]
    simp[Nat.mod_one]
   have:=hmr w' g'.I7 k .nl v e2 (by simpa using h2)
   exact .im this
  ·cases h1
 ·simp only[execOp,ho,LM,Act.eval,hrun,L8,MO]
theorem qn(hT:J5 P T){t:TypeId}{len:Nat}{parts:Array (Nat×Operand)}(ho:o.op = .buildSlice t len parts){el:TypeId}{i te:TI F}(ht:T t=some i)(hde:i.desc = .slice el)(hte:T el=some te)(hs0:¬ te.size=0)(hs1:¬ 1048576<len*te.size){cs:List (Kv F)}
  (hcs:lay (λi=>some (i*te.size,te.size)) ((List.replicate len te.zero).flatten.map .im) ((parts.toList.map (·.1)).zip vals)=some cs) (hrep:Kq P g w vals (o.op.operands.toList.map a.eval)) :
  ∃arr:List Value,arr.length=cs.length∧(∀(k:Nat)(c:Kv F)(x:Value),cs[k]? = some c→arr[k]? = some x→Ka g w c x)∧(execOp a.eval o).run P w = .ok (.value (.slice (some ⟨w.heap.size,0,none⟩) len len)) (w.alloc (.cells ⟨arr⟩ el)):=by
 rw[ho]at hrep
 have ajd:Kq P g w vals (parts.toList.map λp=>a.eval p.2):=by
  have:(Op.buildSlice t len parts).operands.toList.map a.eval=parts.toList.map λp=>a.eval p.2:=by simp[Op.operands,Function.comp_def]
  rwa [this]at hrep
 have h0:0<te.size:=by omega
 obtain⟨j,z,hj,hs,hb,hz,hzs,hml,hzl,hmr⟩:=oY hT hte h0 len;obtain⟨p1,p2⟩:=rX parts.toList vals ajd;obtain⟨arr,r1,r2,r3,r4⟩:=uH (P:=P) (g:=g) (w:=w) (λi=>some (i*te.size,te.size)) _ (parts.toList.map λ(i,x)=>(i,a.eval x)) _ cs (madeCells z.cells (len*te.size)).toList hcs p1 p2
  (by rw[hml,OD]) (by intro k c x h1 h2;obtain⟨d,hd',rfl⟩:=fD h1;exact .im (hmr w g.I7 k d x hd' h2))
 have hrun:(execOp a.eval o).run P w = .ok (.value (.slice (some ⟨w.heap.size,0,none⟩) len len)) (w.alloc (.cells ⟨arr⟩ el)):=by
  have hu:=hT.und _ _ ht;rw[hde]at hu;have hu:=run_underlying hu w;have hsz:=bA hT hte w
  have Ue:Instr.fill (λi=>some (i*te.size,te.size)) (madeCells z.cells (len*te.size)) (parts.map λ(i,x)=>(i,a.eval x)).toList=some ⟨arr⟩:=by simpa using r1
  unfold madeCells at Ue
  have hzv:(zeroValue el).run P w = .ok z w:=by simp[zeroValue,typeInfo,hj,hz]
  have hbig:¬ (16777216<len*te.size):=by omega
  by_cases hz0:len*te.size=0
  ·have hl0:len=0:=by
    rcases Nat.mul_eq_zero.1 hz0 with h | h
    ·exact h
    ·omega
   subst hl0
   have e0:∀z0:Array Value,(Array.range (0*te.size)).map (λx=>z0[x % z0.size]!) = #[]:=λz0=>by simp
   rw[e0]at Ue;simp only[execOp,ho,Instr.buildSlice,LM,hu,L8,hsz]
   rw[if_neg (by simp),if_pos hz0]
   simp only[MO,L8,e0,Ue,newRow,LM,run_newObj,World.alloc_eq]
  ·simp only[execOp,ho,Instr.buildSlice,LM,hu,L8,hsz]
   rw[if_neg (by simpa using hbig),if_neg hz0]
   simp only[LM,hzv,L8,MO,Ue,newRow,run_newObj,World.alloc_eq]
 exact⟨arr,r2,r4,hrun⟩
theorem uX(hT:J5 P T){t:TypeId}{len:Nat}{parts:Array (Nat×Operand)}(ho:o.op = .buildSlice t len parts):Rule P o vals mm c K (pI T vals mm c K t len (parts.toList.map (·.1))):=by
 unfold pI;split
 ·rename_i el sz bt zero _ _ ht;split
  ·exact ah
  ·rename_i te hte;split
   ·exact ah
   ·rename_i tt RI;refine au (λ_=>ah) (λhsm=>?_);simp only[PE,decide_eq_true_eq,not_or,M4,bne_iff_ne,ne_eq,Decidable.not_not]at hsm;obtain⟨⟨hs0,hs1⟩,hsz⟩:=hsm;split
    ·exact ah
    ·rename_i cs hcs;split
     ·exact ah
     ·rename_i ds fz hds;split
      ·exact ah
      ·rename_i l hl;refine au (λhc=>?_) (λ_=>ah);simp only[KV,decide_eq_true_eq]at hc;obtain⟨hlen,_⟩:=hc;intro r hr;refine⟨_,hr,?_⟩;intro own g w a m u hle hm hd hall hfr hrep;have hf:NP mm fz:=NP.MH (kh hds);refine xK (res:={ val:=.c (.KU c),mw:=[(c,some (.row tt l))],nu:=1 }) hle hf ?_;have hm1:=freeze hm hle hf
       have h0:0<te.size:=by omega
       obtain⟨arr,r2,r4,hrun⟩:=qn hT ho ht rfl hte hs0 hs1 hcs hrep;obtain⟨q1,q2⟩:=lW hsz hl hlen;have hcell:=fA hm hle hds (mg g w fz) (λid hid b hb=>.inr ⟨id,hid,hb⟩) arr r4
       have hml':len≤maxLen:=by have:len≤len*te.size:=Nat.le_mul_of_pos_right _ h0;simp only[maxLen];omega
       refine mF (rm:=[]) (cn:=(len,len)) (arr:=arr) (t:=el) hm1 hd hall (hfr 0 (by simp)) (w1:=w) rfl rfl rfl rfl (KC _) (λg' w' hi=>.c (.KU hi (KC _) hml')) ?_ hrun
       intro g' w' hle' hi hh
       refine .inr ⟨w.heap.size,len,arr,el,by rw[q1];exact hi,hh,by omega,hml',?_,?_⟩
       ·rw[r2,← d8 hds,hlen,hsz]
       ·intro k d x h1 h2;exact(sF q2 hcell k d x h1 h2).le hle'
 ·exact ah
def RH(g:G):Option Nat→Option (Nat×Nat×Nat)
 | some id=>match g.ids id with
  | some (some (b,c,n,_))=>some (b,c,n)
  | _=>none
 | none=>none
theorem Hi{id b:Nat}{c:Nat×Nat}(h:RH g (some id)=some (b,c)):g.blk id b:=by
 simp only[RH]at h;split at h
 ·rename_i h1;cases h;exact G.Kt h1
 ·cases h
theorem DV(hm:Jl own g w m){id:Nat}{t:Ty}{l:List (ET F t)}(h:m id=some (.row t l)):bD w g.I7 t l (KW (RH g (some id))):=by
 rcases hm.ok id _ h with⟨h1,h2⟩ | ⟨b,cap,cur,e,k1,k2,k3,k4,k5,k6⟩
 ·simp[RH,h1,KW,bD,h2]
 ·have:RH g (some id)=some (b,cap,l.length):=by simp[RH,k1]
  rw[this];exact⟨rfl,k3,k4,cur,e,k2,k5,k6⟩
theorem EB(hm:Jl own g w m){id:Nat}{t:Ty}{l:List (ET F t)}(h:m id=some (.row t l)){v:Value}(hv:Ka (F:=F) g w (.KU id) v):Ll (KW (RH g (some id))) v:=by
 rcases a_ hv with⟨hi,p,rfl⟩ | ⟨b,c,n,hi,h1,h2,rfl⟩
 ·simp[RH,hi,KW,Ll]
 ·obtain⟨rfl,_,_⟩:=bX hm h hi;simp[RH,hi,KW,Ll]
theorem tJ:∀{cs:List (Kv F)} {ds:List (ND F)} {os:List (Option Nat)},jV mm cs=some (ds,os)→ds.length=cs.length∧os.length=cs.length∧∀(k:Nat)(c:Kv F)(d:ND F)(o:Option Nat),cs[k]? = some c→ds[k]? = some d→os[k]? = some o→
  (∃id t l,c = .KU id∧mm id=some (.row t l)∧d = .sl t l∧o=some id)∨(c = .im .nl∧d = .nl∧o=none)∨(c = .im d∧d.flat=true∧o=none)
 | [],ds,os,h=>by
  simp only[jV,K3,Prod.mk.injEq]at h;obtain⟨rfl,rfl⟩:=h
  exact⟨rfl,rfl,λk c d o h=>by simp at h⟩
 | c::r,ds,os,h=>by
  have next:∀{d':ND F}{o':Option Nat}{ds':List (ND F)} {os':List (Option Nat)},jV mm r=some (ds',os')→
    ((∃id t l,c = .KU id∧mm id=some (.row t l)∧d' = .sl t l∧o'=some id)∨(c = .im .nl∧d' = .nl∧o'=none)∨(c = .im d'∧d'.flat=true∧o'=none))→
    (d'::ds').length=(c::r).length∧(o'::os').length=(c::r).length∧∀(k:Nat)(c0:Kv F)(d:ND F)(o:Option Nat),(c::r)[k]? = some c0→(d'::ds')[k]? = some d→(o'::os')[k]? = some o→
     (∃id t l,c0 = .KU id∧mm id=some (.row t l)∧d = .sl t l∧o=some id)∨(c0 = .im .nl∧d = .nl∧o=none)∨(c0 = .im d∧d.flat=true∧o=none):=by
   intro d' o' ds' os' h1 h2;obtain⟨k1,k2,k3⟩:=tJ h1
   refine⟨by simp[k1],by simp[k2],?_⟩
   intro k c0 d o q1 q2 q3
   cases k with
   | zero=>simp only[M9,K3]at q1 q2 q3;subst q1 q2 q3;exact h2
   | succ k=>exact k3 k c0 d o (by simpa using q1) (by simpa using q2) (by simpa using q3)
  unfold jV at h;split at h
  ·rename_i heq;cases heq
  ·rename_i id r' heq;cases heq;split at h
   ·rename_i t l hrow;split at h
    ·rename_i ds' os' hr;cases h;exact next hr (.inl ⟨id,t,l,rfl,hrow,rfl,rfl⟩)
    ·cases h
   ·cases h
  ·rename_i r' heq;cases heq;split at h
   ·rename_i ds' os' hr;cases h;exact next hr (.inr (.inl ⟨rfl,rfl,rfl⟩))
   ·cases h
  ·rename_i d r' hnn heq;cases heq;split at h
   ·rename_i hf;split at h
    ·rename_i ds' os' hr;cases h;exact next hr (.inr (.inr ⟨rfl,hf,rfl⟩))
    ·cases h
   ·cases h
  ·cases h
theorem qz{x:Nat}:∀{l:List (Option Nat)},x∈Km l↔some x∈l
 | []=>by simp[Km]
 | none::l=>by simp[Km,qz (l:=l)]
 | some y::l=>by simp[Km,qz (l:=l)]
theorem rN(hm:Jl own g w m):∀{os:List (Option Nat)},cv (Km os)=true→(∀id,some id∈os→∃B,m id=some B∧B.owned=true)→(Kr (os.map (RH g))).Nodup∧∀b∈Kr (os.map (RH g)),∃id,some id∈os∧g.blk id b
 | [],_,_=>⟨Zz,λb hb=>by simp[Kr]at hb⟩
 | none::os,hn,ho=>by
  obtain⟨h1,h2⟩:=rN hm (os:=os) (by simpa[Km]using hn) (λid hid=>ho id (by simp[hid]))
  refine⟨by simpa[RH,Kr]using h1,λb hb=>?_⟩
  obtain⟨id,q1,q2⟩:=h2 b (by simpa[RH,Kr]using hb)
  exact⟨id,by simp[q1],q2⟩
 | some id::os,hn,ho=>by
  simp only[Km,cv,KV,Rp]at hn
  obtain⟨h1,h2⟩:=rN hm (os:=os) hn.2 (λid hid=>ho id (by simp[hid]))
  simp only[K7]
  cases hp:RH g (some id)with
  | none=>
   refine⟨by simpa[Kr]using h1,λb hb=>?_⟩
   obtain⟨id,q1,q2⟩:=h2 b (by simpa[Kr]using hb)
   exact⟨id,by simp[q1],q2⟩
  | some q=>
   obtain⟨b0,c0⟩:=q;have hb0:=Hi hp;refine⟨?_,?_⟩
   ·simp only[Kr,PI];refine⟨λhb=>?_,h1⟩;obtain⟨id',q1,q2⟩:=h2 b0 hb
    obtain⟨B,r1,r2⟩:=ho id (by simp)
    obtain⟨B',r3,r4⟩:=ho id' (by simp[q1])
    have:=hm.OB id id' B B' b0 r1 r3 r2 r4 hb0 q2;subst this;have:=aK.2 (qz.2 q1);rw[this]at hn;cases hn.1
   ·intro b hb;simp only[Kr,Lr]at hb;rcases hb with rfl | hb
    ·exact⟨id,by simp,hb0⟩
    ·obtain⟨id,q1,q2⟩:=h2 b hb
     exact⟨id,by simp[q1],q2⟩
theorem Gs{t:Ty}{c:ND F}{x:ET F t}(h:RB F t c=some x):enc1 F t x≠.nl:=by
 unfold RB at h
 split at h<;>first | (intro e;cases e;done) | cases h
theorem A7:∀{ts:List Ty}{cs:List (ND F)} {a:Js F ts},OZ F ts cs=some a→∀d∈LV F ts a,d≠.nl
 | [],cs,a,h,d,hd=>by simp[LV]at hd
 | t::r,cs,a,h,d,hd=>by
  cases cs with
  | nil=>simp[OZ]at h
  | cons c cs=>
   simp only[OZ]at h;split at h
   ·cases h
   ·rename_i x hx;split at h
    ·cases h
    ·rename_i y hy;cases h;rcases Lr.1 hd with rfl | hd
     ·exact Gs hx
     ·exact A7 hy d hd
theorem qr{t:Ty}{cs:List (ND F)}{x:ET F t}(h:Ml F t cs=some x):∀d∈Jj F t x,d≠.nl:=by
 unfold Ml at h;split at h
 ·split at h
  ·cases h
  ·rename_i a ha;cases h;simp only[Jj,F.um];exact A7 ha
 all_goals first | (intro d hd;simp only[Jj,I4]at hd;subst hd;intro e;cases e;done) | cases h
theorem C7{I7:Nat→Prop}{d d':ND F}{x:Value}(hf:d.flat=true)(hl:Rs d d')(h:Ju w I7 d x):LJ w I7 d' x none:=by
 cases hl with
 | refl=>
  cases d with
  | sl t' l'=>cases hf
  | _=>exact⟨rfl,hf,h⟩
 | nl t'=>cases hf
theorem wR{tt:Ty}{sz:Nat}:∀{n:Nat}{ds:List (ND F)} {l:List (ET F tt)},je tt sz n ds=some l→∀d∈cells F tt l,d≠.nl
 | 0,ds,l,h,d,hd=>by simp only[je,K3]at h;subst h;simp[cells]at hd
 | n+1,ds,l,h,d,hd=>by
  simp only[je]at h;split at h
  ·cases h
  ·rename_i x hx;split at h
   ·cases h
   ·rename_i r hr;cases h;simp only[cells,K7,U9,Mr]at hd;rcases hd with hd | hd
    ·exact qr hx d hd
    ·exact wR hr d hd
theorem ux(hT:J5 P T){t:TypeId}{len:Nat}{parts:Array (Nat×Operand)}(ho:o.op = .buildSlice t len parts):Rule P o vals mm c K (n9 T vals mm c K t len (parts.toList.map (·.1))):=by
 unfold n9;split
 ·rename_i el sz bt zero _ _ ht;split
  ·exact ah
  ·rename_i te hte;split
   ·exact ah
   ·rename_i tt RI;refine au (λ_=>ah) (λhsm=>?_);simp only[PE,decide_eq_true_eq,not_or,M4,bne_iff_ne,ne_eq,Decidable.not_not]at hsm;obtain⟨⟨hs0,hs1⟩,hsz⟩:=hsm;split
    ·exact ah
    ·rename_i cs hcs;split
     ·exact ah
     ·rename_i ds os hds;split
      ·exact ah
      ·rename_i l hl;refine au (λhc=>?_) (λ_=>ah);simp only[KV,decide_eq_true_eq]at hc;obtain⟨hlen,hnd⟩:=hc;intro r hr;refine⟨_,hr,?_⟩;intro own g w a m u hle hm hd hall hfr hrep
       have h0:0<te.size:=by omega
       obtain⟨arr,r2,r4,hrun⟩:=qn hT ho ht rfl hte hs0 hs1 hcs hrep;obtain⟨q1,q2⟩:=lW hsz hl hlen
       have hml':len≤maxLen:=by have:len≤len*te.size:=Nat.le_mul_of_pos_right _ h0;simp only[maxLen];omega
       obtain⟨n1,n2,n3⟩:=tJ hds
       have hrows:∀id,some id∈os→∃t l,m id=some (.row t l):=by
        intro id hid;obtain⟨k,hk⟩:=RL hid;have hlt:=(I0.1 hk).1
        rcases n3 k _ _ _ (IZ (by omega)) (IZ (by omega)) hk with⟨id',t',l',_,e2,_,e4⟩ | ⟨_,_,e⟩ | ⟨_,_,e⟩
        ·cases e4;exact⟨t',l',hle _ _ e2⟩
        ·cases e
        ·cases e
       have Tt:∀id,some id∈os→∃B,m id=some B∧B.owned=true:=λid hid=>by obtain⟨t',l',h⟩:=hrows id hid;exact⟨_,h,rfl⟩
       obtain⟨d1,d2⟩:=rN hm hnd Tt;have hold:∀b,b<w.heap.size→(w.alloc (.cells ⟨arr⟩ el)).heap[b]? = w.heap[b]?:=λb hb=>heap_alloc_old w _ b hb
       have hlow:∀b∈Kr (os.map (RH g)),b<w.heap.size:=by intro b hb;obtain⟨id,e1,e2⟩:=d2 b hb;obtain⟨B,e3,e4⟩:=Tt id e1;exact(hm.ok id B e3).place hm.I7 (J8.MX e4) e2
       have hR:Jl own (g.name c (some (w.heap.size,len,len,os.map (RH g)))) (w.alloc (.cells ⟨arr⟩ el)) (Ki m ((Km os).map (λr=>(r,none))++[(c,some (.KR tt l))]))∧Stp m g w (g.name c (some (w.heap.size,len,len,os.map (RH g)))) (w.alloc (.cells ⟨arr⟩ el)):=by
        refine gj (rm:=Km os) hm (hd c (hfr 0 (by simp))) ?_ rfl rfl rfl (KC _) (by rw[World.size_alloc];omega) (λb hb _=>hold b hb) ?_
        ·intro b0 c0 e b hb;cases e;rcases Lr.1 hb with rfl | hb
         ·exact .inl ⟨KC _,by rw[World.size_alloc];omega,hall _ (KC _)⟩
         ·obtain⟨id,e1,e2⟩:=d2 b hb;obtain⟨B,e3,e4⟩:=Tt id e1;exact .inr ⟨id,qz.2 e1,B,e3,e4,e2⟩
        ·intro g' hle' hi'
         have hcl:(cells F tt l).length=len*te.size:=by rw[aD,q1,hsz]
         refine⟨_,hi',q1.symm,by rw[q1];exact KC _,hml',?_,?_,arr,el,heap_alloc_new w _,?_,?_⟩
         ·rw[OD,n2,← n1,hlen,hcl]
         ·refine PI.2 ⟨λhb=>?_,d1⟩;have:=hlow _ hb;omega
         ·rw[r2,← n1,hlen,hsz]
         ·intro k d x pl p1 p2 p3
          have hk:k<cs.length:=by rw[← r2];exact(I0.1 p2).1
          rw[MU,RN]at p3;obtain⟨o',ho',rfl⟩:=p3
          have hdk:ds[k]? = some ds[k]:=IZ (by omega)
          have hl1:Rs ds[k] d:=q2.2 k _ d hdk p1;have hrep:=r4 k _ x (IZ hk) p2;refine LJ.Mv (w:=w) (I7:=g.I7) hle'.I7 hle'.heap ?_ ?_
          ·intro b c1 e
           exact hold b (hlow b (fa (k:=k) (c:=c1) (by rw[MU,ho'];exact congrArg some e)))
          ·rcases n3 k _ _ _ (IZ hk) hdk ho' with⟨id,t',l',e1,e2,e3,rfl⟩ | ⟨e1,e2,rfl⟩ | ⟨e1,e2,rfl⟩
           ·rw[e3]at hl1;cases hl1;rw[e1]at hrep;exact⟨DV hm (hle _ _ e2),EB hm (hle _ _ e2) hrep⟩
           ·rw[e2]at hl1;rw[e1]at hrep;generalize hdd:d=d0 at hl1 ⊢
            cases hl1 with
            | refl=>exact absurd (hdd.symm▸rfl:d = .nl) (wR hl d (Rq p1))
            | nl t'=>obtain⟨p,rfl⟩:=mu (P:=P) (.c hrep);exact⟨rfl,p,rfl⟩
           ·rw[e1]at hrep;have hrep:=b7 hrep;exact C7 e2 hl1 hrep
       obtain⟨k1,k2⟩:=hR;intro next Q hn;unfold Oper.wp;rw[hrun];refine hn _ _ _ (.c (.KU (n:=(len,os.map (RH g))) (a9 _ _ _) (KC _) hml')) k1 k2 ?_;intro x hu hx;have hx:x<c∨c+1≤x:=hx
       have:x≠c:=by omega
       rw[bE _ _ _ this];exact hd x hu
 ·exact ah
end
set_option linter.unusedVariables false
set_option linter.unusedSimpArgs false
section
variable{F:Fam}{P:Program}{T:TypeId→Option (TI F)}{o:Oper}{vals:List (Dat F)}{mm:Nat→Option (J8 F)}{c:Nat}{R:Type}{K:Oy F→Option R}{own:Ow}{g g':G}{w w':World}{m m':Nat→Option (J8 F)}{u:Nat→Bool}{a:Act}
theorem zN{α : Type}{sz:Nat}:∀{es:List (List α)} (_:∀e∈es,e.length=sz) {i:Nat} {cs ds:List α} (_:es[i]? = some cs) (_:ds.length=cs.length),
  (es.set i ds).flatten=es.flatten.take (i*sz)++ds++es.flatten.drop (i*sz+sz)
 | [],_,i,_,_,h,_=>by simp at h
 | x::es,hsz,0,cs,ds,h,hl=>by
  simp only[M9,K3]at h;subst h
  have hx:x.length=sz:=hsz x (by simp)
  have h2:(x++es.flatten).drop sz=es.flatten:=by rw[← hx,List.drop_left]
  simp[h2]
 | x::es,hsz,i+1,cs,ds,h,hl=>by
  simp only[W_]at h
  have hx:x.length=sz:=hsz x (by simp)
  have ih:=zN (es:=es) (λe he=>hsz e (by simp[he])) h hl
  have e1:(i+1)*sz=x.length+i*sz:=by rw[Ro,hx];omega
  simp only[List.set_cons_succ,U9,ih]
  rw[e1,show x.length+i*sz+sz=x.length+(i*sz+sz)by omega,List.take_length_add_append,List.drop_length_add_append]
  simp only[MK]
theorem r7{t:Ty}{l:List (ET F t)}{i:Nat}{x y:ET F t}(h:l[i]? = some x):cells F t (l.set i y)=(cells F t l).take (i*Jm F t)++Jj F t y++(cells F t l).drop (i*Jm F t+Jm F t):=by
 unfold cells;rw[List.map_set]
 refine zN oA (cs:=Jj F t x) (by rw[MU,h];rfl) (by rw[aT,aT])
theorem qu{I7:Nat→Prop}{cs ds:List (ND F)}{cur vs:List Value}{q:Nat}(hq:q+ds.length≤cs.length)(hc:cs.length≤cur.length)
  (hr:∀(k:Nat)(d:ND F)(x:Value),cs[k]? = some d→cur[k]? = some x→Ju w I7 d x) (hl:vs.length=ds.length)
  (hv:∀(k:Nat)(d:ND F)(x:Value),ds[k]? = some d→vs[k]? = some x→Ju w I7 d x) :
  ∀(k:Nat)(d:ND F)(x:Value),(cs.take q++ds++cs.drop (q+ds.length))[k]? = some d→(cur.take q++vs++cur.drop (q+vs.length))[k]? = some x→Ju w I7 d x:=by
 intro k d x h1 h2
 have e1:(cs.take q).length=q:=by simp;omega
 have e2:(cur.take q).length=q:=by simp;omega
 rw[MK]at h1 h2;by_cases hk:k<q
 ·rw[ME (by omega),MV,if_pos hk]at h1
  rw[ME (by omega),MV,if_pos hk]at h2
  exact hr k d x h1 h2
 ·rw[Nj (by omega),e1]at h1
  rw[Nj (by omega),e2]at h2
  by_cases hk2:k - q<ds.length
  ·rw[ME hk2]at h1
   rw[ME (by omega)]at h2
   exact hv _ d x h1 h2
  ·rw[Nj (by omega),OC]at h1
   rw[Nj (by omega),OC]at h2
   rw[hl]at h2;exact hr _ d x h1 h2
theorem mG{t:Ty}{l:List (ET F t)}{i k:Nat}{x y:ET F t}{d:ND F}(h:l[i]? = some x)(hk:(cells F t (l.set i y))[k]? = some d) :
  (∃j,k=i*Jm F t+j∧(Jj F t y)[j]? = some d)∨((k<i*Jm F t∨i*Jm F t+Jm F t≤k)∧(cells F t l)[k]? = some d):=by
 have hi:i<l.length:=(I0.1 h).1;have hcl:(cells F t l).length=l.length*Jm F t:=aD
 have hbig:i*Jm F t+Jm F t≤(cells F t l).length:=by rw[hcl];have:(i+1)*Jm F t≤l.length*Jm F t:=M5 _ hi;rw[Ro]at this;omega
 have e1:((cells F t l).take (i*Jm F t)).length=i*Jm F t:=by rw[Lj];omega
 rw[r7 h,MK]at hk;by_cases h1:k<i*Jm F t
 ·rw[ME (by omega),MV,if_pos h1]at hk
  exact .inr ⟨.inl h1,hk⟩
 ·rw[Nj (by omega),e1]at hk
  by_cases h2:k - i*Jm F t<Jm F t
  ·rw[ME (by rw[aT];exact h2)]at hk
   exact .inl ⟨k - i*Jm F t,by omega,hk⟩
  ·rw[Nj (by rw[aT];omega),aT,OC]at hk
   refine .inr ⟨.inr (by omega),?_⟩
   rw[← hk]
   congr 1
   omega
theorem we{b:Nat}:∀{ns:NS},(Kr ns).Nodup→∀{k k':Nat}{c c':Nat×Nat},ns[k]? = some (some (b,c))→ns[k']? = some (some (b,c'))→k=k'
 | [],_,k,k',c,c',h,_=>by simp at h
 | none::ns,hn,k,k',c,c',h,h'=>by
  cases k with
  | zero=>simp at h
  | succ k=>
   cases k' with
   | zero=>simp at h'
   | succ k'=>exact congrArg (· + 1) (we (ns:=ns) hn (k:=k) (k':=k') (c:=c) (c':=c') (by simpa using h) (by simpa using h'))
 | some (b0,c0)::ns,hn,k,k',c,c',h,h'=>by
  simp only[Kr,PI]at hn
  cases k with
  | zero=>
   cases k' with
   | zero=>rfl
   | succ k'=>
    simp only[M9,K3,Prod.mk.injEq]at h
    exact absurd (fa (ns:=ns) (by simpa using h')) (h.1▸hn.1)
  | succ k=>
   cases k' with
   | zero=>
    simp only[M9,K3,Prod.mk.injEq]at h'
    exact absurd (fa (ns:=ns) (by simpa using h)) (h'.1▸hn.1)
   | succ k'=>exact congrArg (· + 1) (we (ns:=ns) hn.2 (k:=k) (k':=k') (c:=c) (c':=c') (by simpa using h) (by simpa using h'))
theorem uK{I7:Nat→Prop}{d d':ND F}{x:Value}{pl:Option (Nat×Nat×Nat)}(hl:Rs d d')(h:LJ w I7 d x pl):d'=d:=by
 cases hl with
 | refl=>rfl
 | nl t=>exact absurd h.2.1 (by simp[NV.flat])
theorem Bg{I7:Nat→Prop}{t':Ty}{l:List (ET F t')}{i off:Nat}{el nw:ET F t'}{ds:List (ND F)}{cur vs:List Value}(hel:l[i]? = some el)(h3:off+ds.length≤Jm F t')(hnw:Ml F t' ((Jj F t' el).take off++ds++(Jj F t' el).drop (off+ds.length))=some nw)
  (hcur:(cells F t' l).length≤cur.length) (k6:∀(k:Nat)(d:ND F)(x:Value),(cells F t' l)[k]? = some d→cur[k]? = some x→Ju w I7 d x) (hl:vs.length=ds.length)
  (hv:∀(k:Nat)(d:ND F)(x:Value),ds[k]? = some d→vs[k]? = some x→Ju w I7 d x) :
  ∀(k:Nat)(d:ND F)(x:Value),(cells F t' (l.set i nw))[k]? = some d→(cur.take (i*Jm F t'+off)++vs++cur.drop (i*Jm F t'+off+ds.length))[k]? = some x→Ju w I7 d x:=by
 intro k d x p q;have hile:i<l.length:=(I0.1 hel).1;have hcl:(cells F t' l).length=l.length*Jm F t':=aD
 have hbig:i*Jm F t'+Jm F t'≤(cells F t' l).length:=by rw[hcl];have:(i+1)*Jm F t'≤l.length*Jm F t':=M5 _ hile;rw[Ro]at this;omega
 rw[r7 hel]at p;have hels:(Jj F t' el).length=Jm F t':=aT F t' el
 have hov:=qu (w:=w) (I7:=I7) (cs:=cells F t' l) (ds:=ds) (cur:=cur) (vs:=vs) (q:=i*Jm F t'+off) (by omega) hcur k6 hl hv
 rw[hl]at hov;have Pe:=bK F hnw
 have hin:(cells F t' l).take (i*Jm F t')++(Jj F t' el).take off=(cells F t' l).take (i*Jm F t'+off):=by
  rw[List.take_add]
  congr 1
  apply ZC;intro j;rw[MV,MV];split
  ·rw[OC]
   have hj:j<(Jj F t' el).length:=by omega
   rw[IZ hj,aS hel (IZ hj)]
  ·rfl
 have hout:(Jj F t' el).drop (off+ds.length)++(cells F t' l).drop (i*Jm F t'+Jm F t')=(cells F t' l).drop (i*Jm F t'+off+ds.length):=by
  apply ZC;intro j;rw[OC];by_cases hj:off+ds.length+j<Jm F t'
  ·rw[ME (by rw[Nh,hels];omega),OC]
   have hj2:off+ds.length+j<(Jj F t' el).length:=by omega
   rw[IZ hj2];have:=aS hel (IZ hj2);rw[← this]
   congr 1
   omega
  ·rw[Nj (by rw[Nh,hels];omega),OC,Nh,hels]
   congr 1
   omega
 have Wd:OT ((cells F t' l).take (i*Jm F t'+off)++ds++(cells F t' l).drop (i*Jm F t'+off+ds.length)) ((cells F t' l).take (i*Jm F t')++Jj F t' nw++(cells F t' l).drop (i*Jm F t'+Jm F t')):=by
  rw[← hin,← hout]
  have hrefl:∀l:List (ND F),OT l l:=λl=>⟨rfl,λk c d h1 h2=>by rw[h1]at h2;cases h2;exact .refl _⟩
  have:=j8 (j8 (hrefl ((cells F t' l).take (i*Jm F t'))) Pe) (hrefl ((cells F t' l).drop (i*Jm F t'+Jm F t')));simpa[MK]using this
 exact sF Wd hov k d x p q
theorem sx:∀{cs:List (Kv F)} {ds:List (ND F)} {ids:List Nat},bI mm cs=some (ds,ids)→cs.all Kv.NA=true
 | [],ds,ids,_=>rfl
 | y::cs,ds,ids,h=>by
  obtain⟨d,i',ds',j,q1,q2,_,_⟩:=jd h;simp only[TB,KV];refine⟨?_,sx q2⟩
  cases y<;>first | rfl | simp[NZ]at q1
theorem Bk(hT:J5 P T){t:TypeId}{x y:Operand}(ho:o.op = .store t x y):Rule P o vals mm c K (yQ T vals mm K t):=by
 unfold yQ;split
 ·exact ah
 ·rename_i ti hti
  have key:∀{w:World}{a:Act}{b q:Nat}{cur:List Value} {e:TypeId} {vs:List Value},a.eval x = .pointer (some ⟨b,q,none⟩)→w.heap[b]? = some (.cells ⟨cur⟩ e (0,0))→(a.eval y).cells.toList=vs→vs.length=ti.size→
    (∀v∈vs,v.oneCell'=true)→q+vs.length≤cur.length→(execOp a.eval o).run P w = .ok .skip (w.setRow b ⟨cur.take q++vs++cur.drop (q+vs.length)⟩):=by
   intro w a b q cur e vs e1 hb e2 hl h1 hle;have hsz:=bA hT hti w
   have hs:=run_storeCells_at (P:=P) b q e vs 0 ⟨cur⟩ w hb (by simpa using hle) h1
   simp only[R4]at hs
   have hsize:(a.eval y).cells.size=ti.size:=by rw[← SV,e2,hl]
   simp only[execOp,ho,e1,Instr.storeAt,Instr.sureAddr,LM,MO,L8,storeVar,hsz,hsize,ne_eq,not_true_eq_false,if_false,e2,hs]
  split
  ·rename_i id off v;split
   ·rename_i cs MF;dsimp only;refine au (λhc=>?_) (λ_=>ah);simp only[KV,decide_eq_true_eq,M4]at hc;obtain⟨⟨⟨h1,h2⟩,h3⟩,h4⟩:=hc;have h3:=P9 h3;intro r hr;refine⟨_,hr,?_⟩;intro own g w a m u hle hm hd hall hfr hrep;rw[ho]at hrep;simp only[Op.operands,K7,LG]at hrep;obtain⟨hx,hy⟩:=KM hrep;obtain⟨b,cn,hi,e1⟩:=bo hx;obtain⟨b',RY,arr,tt,k1,k2,k3,k4⟩:=hm.ok id _ (hle _ _ MF);rw[k1]at hi;cases hi;obtain⟨r1,r2,r3⟩:=ia hy h2 h4
    have hrun:=key (vs:=(a.eval y).cells.toList) e1 k2 rfl (by rw[r1,h1]) r3 (by rw[r1,k3];exact h3)
    have hseg:=Ap (off:=off) k3 k4 r1 r2;rw[r1]at hseg hrun
    obtain⟨w1,w2⟩:=sD (B':=.box (cs.take off++v.cells++cs.drop (off+v.cells.length))) (arr:=arr.take off++(a.eval y).cells.toList++arr.drop (off+v.cells.length)) hm (hle _ _ MF) rfl k1 k2 (by intro hh hle';exact⟨b,RY,_,tt,k1,hh,hseg.1,λk c x p q=>(hseg.2 k c x p q).le hle'⟩)
    intro next Q hn;unfold Oper.wp;rw[hrun];exact hn undef _ g (.c .any) w1 w2 (λid hu _=>hd id hu)
   ·exact ah
  ·rename_i id sz i off v;split
   ·rename_i t' l ds fz hrow hds;refine au (λhc=>?_) (λ_=>ah);simp only[KV,decide_eq_true_eq,beq_iff_eq,M4,Rp]at hc;obtain⟨⟨⟨⟨⟨h1,h2⟩,h3⟩,h4⟩,h5⟩,_⟩:=hc;have h3:=P9 h3;subst h2;refine aC λel hel=>?_;dsimp only;split
    ·rename_i nw hnw;intro r hr;refine⟨_,hr,?_⟩;intro own g w a m u hle hm hd hall hfr hrep;have hf:NP mm fz:=NP.MH (kh hds);refine xK (res:={ val:=.c .any,mw:=[(id,some (.row t' (l.set i nw)))] }) hle hf ?_;have hm1:=freeze hm hle hf;rw[ho]at hrep;simp only[Op.operands,K7,LG]at hrep;obtain⟨hx,hy⟩:=KM hrep;have hlen:v.cells.length=ds.length:=(d8 hds).symm
     have hna:v.cells.all Kv.NA=true:=by
      rw[Oe];intro x hx'
      have gen:∀{cs:List (Kv F)} {ds:List (ND F)} {ids:List Nat},bI mm cs=some (ds,ids)→x∈cs→x.NA=true:=by
       intro cs
       induction cs with
       | nil=>intro ds ids _ h;simp at h
       | cons y cs ih=>
        intro ds ids h hmem;obtain⟨d,i',ds',j,q1,q2,_,_⟩:=jd h;rcases Lr.1 hmem with rfl | hmem
        ·cases x<;>first | rfl | simp[NZ]at q1
        ·exact ih q2 hmem
      exact gen hds hx'
     obtain⟨b,cn,hi,e1⟩:=eu hx
     have ajb:Ki m (S9 mm fz) id=some (.row t' l):=by
      rw[gb,if_neg (by intro hid;rw[aK.2 hid]at h5;cases h5)]
      exact hle _ _ hrow
     rcases hm.ok id _ (hle _ _ hrow)with⟨k1,k2⟩ | ⟨b',cap,cur,e,k1,k2,k3,k4,k5,k6⟩
     ·rw[k1]at hi;cases hi
     ·rw[k1]at hi;cases hi
      obtain⟨r1,r2,r3⟩:=ia hy hna (by omega)
      have hile:i<l.length:=(I0.1 hel).1;have hcl:(cells F t' l).length=l.length*Jm F t':=aD
      have hbig:i*Jm F t'+Jm F t'≤(cells F t' l).length:=by rw[hcl];have:(i+1)*Jm F t'≤l.length*Jm F t':=M5 _ hile;rw[Ro]at this;omega
      have hcur:(cells F t' l).length≤cur.length:=by rw[hcl,k5];exact M5 _ k3
      have hrun:=key (vs:=(a.eval y).cells.toList) e1 k2 rfl (by rw[r1,hlen,h1]) r3 (by rw[r1,hlen];omega)
      rw[r1,hlen]at hrun
      obtain⟨w1,w2⟩:=sD (g:=g.Nq fz) (B':=.row t' (l.set i nw)) (arr:=cur.take (i*Jm F t'+off)++(a.eval y).cells.toList++cur.drop (i*Jm F t'+off+ds.length)) hm1 ajb rfl k1 k2 (by
       intro hh hle'
       refine .inr ⟨b,cap,_,e,by rw[RJ];exact k1,hh,by simpa using k3,k4,?_,?_⟩
       ·simp only[I3,Lj,Nh,r1,hlen];omega
       ·intro k d x p q;refine Ju.le hle' ?_;rw[r7 hel]at p;have hels:(Jj F t' el).length=Jm F t':=aT F t' el;have hle2:=mg g w fz
        have hov:=qu (w:=w) (I7:=(g.Nq fz).I7) (cs:=cells F t' l) (ds:=ds) (cur:=cur) (vs:=(a.eval y).cells.toList) (q:=i*Jm F t'+off) (by omega) hcur (λk d x p q=>(k6 k d x p q).le hle2) (by rw[r1,hlen])
         (fA hm hle hds hle2 (λid hid b hb=>.inr ⟨id,hid,hb⟩) _ r2)
        rw[r1,hlen]at hov;have Pe:=bK F hnw
        have hin:(cells F t' l).take (i*Jm F t')++(Jj F t' el).take off=(cells F t' l).take (i*Jm F t'+off):=by
         rw[List.take_add]
         congr 1
         apply ZC;intro j;rw[MV,MV];split
         ·rw[OC]
          have hj:j<(Jj F t' el).length:=by omega
          rw[IZ hj,aS hel (IZ hj)]
         ·rfl
        have hout:(Jj F t' el).drop (off+ds.length)++(cells F t' l).drop (i*Jm F t'+Jm F t')=(cells F t' l).drop (i*Jm F t'+off+ds.length):=by
         apply ZC;intro j;rw[OC];by_cases hj:off+ds.length+j<Jm F t'
         ·rw[ME (by rw[Nh,hels];omega),OC]
          have hj2:off+ds.length+j<(Jj F t' el).length:=by omega
          rw[IZ hj2];have:=aS hel (IZ hj2);rw[← this]
          congr 1
          omega
         ·rw[Nj (by rw[Nh,hels];omega),OC,Nh,hels]
          congr 1
          omega
        have Wd:OT ((cells F t' l).take (i*Jm F t'+off)++ds++(cells F t' l).drop (i*Jm F t'+off+ds.length)) ((cells F t' l).take (i*Jm F t')++Jj F t' nw++(cells F t' l).drop (i*Jm F t'+Jm F t')):=by
         rw[← hin,← hout]
         have hrefl:∀l:List (ND F),OT l l:=λl=>⟨rfl,λk c d h1 h2=>by rw[h1]at h2;cases h2;exact .refl _⟩
         have:=j8 (j8 (hrefl ((cells F t' l).take (i*Jm F t'))) Pe) (hrefl ((cells F t' l).drop (i*Jm F t'+Jm F t')));simpa[MK]using this
        exact sF Wd hov k d x p q)
      intro next Q hn;unfold Oper.wp;rw[hrun];exact hn undef _ (g.Nq fz) (.c .any) w1 w2 (λid hu _=>hd id hu)
    ·exact ah
   ·exact ah
  ·rename_i id sz i off sz' j off' v;split
   ·rename_i t' l ds fz hrow hds;refine au (λhc=>?_) (λ_=>ah);simp only[KV,decide_eq_true_eq,beq_iff_eq,M4,QeG]at hc;obtain⟨⟨⟨h1,rfl⟩,h4⟩,rfl⟩:=hc;refine aC λel hel=>?_;split
    ·rename_i t2 l2 hd;refine au (λhc=>?_) (λ_=>ah);simp only[KV,beq_iff_eq]at hc;obtain⟨rfl,h3⟩:=hc;have h3:=P9 h3;refine aC λel2 acp=>?_;split
     ·rename_i z hz;split
      ·rename_i nw hnw;intro r hr;refine⟨_,hr,?_⟩;intro own g w a m u hle hm hd' hall hfr hrep;rw[ho]at hrep;simp only[Op.operands,K7,LG]at hrep;obtain⟨hx,hy⟩:=KM hrep;have hlen:v.cells.length=ds.length:=(d8 hds).symm;obtain⟨b,c',nn,b',c2,hid,hk,e1⟩:=AF hx;obtain⟨pl,k1,k2⟩:=hm.ok id _ (hle _ _ hrow);rw[hid]at k1;cases k1;obtain⟨t2',l2',hd2,hO⟩:=Nc.sub k2 hk;have hc0:=aS hel hd;rw[hc0]at hd2;cases hd2;obtain⟨q0,q2,q3,cur,e,q4,q5,q6⟩:=hO;have hb':b'∈Kr nn.2:=fa hk;have hblk:g.blk id b':=⟨b,(c',nn),hid,PG _ hb'⟩
       obtain⟨r1,r2,r3⟩:=ia hy (sx hds) (by omega)
       have hjle:j<l2.length:=(I0.1 acp).1;have hcl:(cells F t2 l2).length=l2.length*Jm F t2:=aD
       have hbig:j*Jm F t2+Jm F t2≤(cells F t2 l2).length:=by rw[hcl];have:(j+1)*Jm F t2≤l2.length*Jm F t2:=M5 _ hjle;rw[Ro]at this;omega
       have hcur:(cells F t2 l2).length≤cur.length:=by rw[hcl,q5];exact M5 _ q2
       have hrun:=key (vs:=(a.eval y).cells.toList) e1 q4 rfl (by rw[r1,hlen,h1]) r3 (by rw[r1,hlen];omega)
       rw[r1,hlen]at hrun
       have hv:=fA hm hle hds (Le.refl g w) (by simp) _ r2
       have hnew:=Bg (w:=w) (I7:=g.I7) (vs:=(a.eval y).cells.toList) acp h3 hz hcur q6 (by rw[r1,hlen]) hv
       obtain⟨s1,s2,s3,s4,s5,aoP,e0,s6,s7,s8⟩:=k2;have s5':=PI.1 s5;have hbne:b≠b':=λe=>s5'.1 (e▸hb')
       obtain⟨w1,w2⟩:=y8 (B':=.KR t' (l.set i nw)) (arr:=cur.take (j*Jm F t2+off')++(a.eval y).cells.toList++cur.drop (j*Jm F t2+off'+ds.length)) hm (hle _ _ hrow) rfl hblk q4 (by
        intro hh hle';have hsame:∀b2,b2≠b'→(w.setRow b' ⟨cur.take (j*Jm F t2+off')++(a.eval y).cells.toList++cur.drop (j*Jm F t2+off'+ds.length)⟩).heap[b2]? = w.heap[b2]?:=λb2 h=>setRow_other w b' b2 _ h
        refine⟨_,hid,by rw[s1,RJ],by simpa using s2,s3,by rw[s4,aD,aD,RJ],s5,aoP,e0,by rw[hsame b hbne];exact s6,s7,?_⟩
        intro k d x pl p1 p2 p3;have hkn:k<nn.2.length:=(I0.1 p3).1;have hold:∀{d0:ND F},(cells F t' l)[k]? = some d0→LJ w g.I7 d0 x pl:=λh0=>s8 k _ x pl h0 p2 p3
        have keep:∀{d0:ND F},k≠i*Jm F t'+off→LJ w g.I7 d0 x pl→LJ (w.setRow b' ⟨cur.take (j*Jm F t2+off')++(a.eval y).cells.toList++cur.drop (j*Jm F t2+off'+ds.length)⟩) g.I7 d0 x pl:=by intro d0 hne h;refine h.Mv (λ_ h=>h) hle'.heap ?_;rintro b2 c3 rfl;refine hsame b2 ?_;rintro rfl;exact hne (we s5'.2 p3 hk)
        rcases mG hel p1 with⟨jj,rfl,hjj⟩ | ⟨hout,hcell⟩
        ·have hlt:jj<Jm F t':=by rw[← aT F t' nw];exact(I0.1 hjj).1
         have hj0:jj<(Jj F t' el).length:=by rw[aT];exact hlt
         have Pe:=(bK F hnw).2 jj _ d (IZ (by simpa using hj0)) hjj
         by_cases hjo:jj=off
         ·subst hjo;rw[QdU]at Pe;cases Pe;rw[hk]at p3;cases p3;have h9:=(hold hc0).2
          refine⟨⟨?_,by simpa using q2,q3,_,e,hh,?_,?_⟩,h9⟩
          ·simpa using q0
          ·simp only[I3,Lj,Nh,r1,hlen];omega
          ·intro k d x p q;exact(hnew k d x p q).le hle'
         ·rw[QdN (λe=>hjo e.symm)]at Pe;have h9:=hold (aS hel (IZ hj0));rw[uK Pe h9]
          exact keep (by omega) h9
        ·refine keep ?_ (hold hcell)
         have:off<Jm F t':=by rw[← aT F t' el];exact(I0.1 hd).1
         omega)
       intro next Q hn;unfold Oper.wp;rw[hrun];exact hn undef _ g (.c .any) w1 w2 (λid hu _=>hd' id hu)
      ·exact ah
     ·exact ah
    ·exact ah
   ·exact ah
  ·exact ah
def SE(g:G)(w:World)(t:Ty)(v:Value)(ys:List (ET F t)):Prop:=
 ∃(q:Option Addr)(cap:Nat)(news:List Value),v = .slice q ys.length cap∧news.length=ys.length*Jm F t∧(q=none→ys = []∧cap=0)∧(∀b,q=some b→∀(j:Nat)(x:Value),news[j]? = some x→w.cell? (b.add j)=some x)∧
  ∀(k:Nat)(d:ND F)(x:Value),(cells F t ys)[k]? = some d→news[k]? = some x→Ju w g.I7 d x
theorem vU{b q n:Nat}{ds:List (ND F)}(hl:ds.length=n)(h:∀k d,ds[k]? = some d→∃x,w.cell? ⟨b,q+k,none⟩=some x∧Ju w g.I7 d x) :
  ∃news:List Value,news.length=n∧(∀(j:Nat)(x:Value),news[j]? = some x→w.cell? ((⟨b,q,none⟩:Addr).add j)=some x)∧∀(k:Nat)(d:ND F)(x:Value),ds[k]? = some d→news[k]? = some x→Ju w g.I7 d x:=by
 refine⟨(List.range n).map λk=>(w.cell? ⟨b,q+k,none⟩).getD undef,by simp,?_,?_⟩
 ·intro j x hx
  have hj:j<n:=by have:=(I0.1 hx).1;simpa using this
  rw[MU,QeT hj]at hx;simp only[S_,K3]at hx
  obtain⟨y,hy,_⟩:=h j _ (IZ (by omega))
  rw[hy]at hx;rw[Addr.add_lit,hy];simpa using hx
 ·intro k d x h1 h2
  have hk:k<n:=by have:=(I0.1 h1).1;omega
  rw[MU,QeT hk]at h2;simp only[S_,K3]at h2;obtain⟨y,hy,hr⟩:=h k d h1;rw[hy]at h2;simp only[Ta]at h2;rw[← h2];exact hr
theorem sE{t:Ty}(p:Option Addr):SE (F:=F) g w t (.slice p 0 0) []:=⟨p,0,[],rfl,by simp,λ_=>⟨rfl,rfl⟩,λ_ _ _ _ h=>by simp at h,λ_ _ _ h=>by simp[cells]at h⟩
theorem r_{t:Ty}{l:List (ET F t)}{v:Value}(h:Ju w g.I7 (.sl t l) v):SE g w t v l:=by
 rcases rJ h with⟨rfl,p,rfl⟩ | ⟨b,q,cap,fn,hb,hcap,hmx,rfl,hc,hr⟩
 ·exact sE p
 ·obtain⟨news,n1,n2,n3⟩:=vU (g:=g) (w:=w) (b:=b) (q:=q) (ds:=cells F t l) aD (λk d hk=>⟨fn k,hc k d hk,hr k d hk⟩)
  exact⟨_,cap,news,rfl,n1,(λh=>by cases h),(λb' hb'=>by cases hb';exact n2),n3⟩
theorem uQ(hm:Jl own g w m)(hle:Na mm m){tt:Ty}{d:Dat F}{v:Value}{ys:List (ET F tt)}(h:rF mm tt d=some ys)(hr:J4 P g w d v):SE g w tt v ys:=by
 unfold rF at h;split at h
 ·cases h;obtain⟨p,rfl⟩:=mu hr
  exact sE p
 ·split at h
  ·rename_i hk;subst hk;cases h;exact r_ (sv hr)
  ·cases h
 ·rename_i id;split at h
  ·rename_i t' l hrow;split at h
   ·rename_i hk;subst hk;cases h;rcases a_ (aV hr)with⟨hi,p,rfl⟩ | ⟨b,cap,n,hi,h1,h2,rfl⟩
    ·rcases hm.ok id _ (hle _ _ hrow)with⟨_,rfl⟩ | ⟨_,_,_,_,k1,_⟩
     ·exact sE p
     ·rw[hi]at k1;cases k1
    ·obtain⟨rfl,h4,h7⟩:=bX hm (hle _ _ hrow) hi
     obtain⟨news,n1,n2,n3⟩:=vU (g:=g) (w:=w) (b:=b) (q:=0) (ds:=cells F t' l) aD (λk d hk=>by rw[L_];exact h7 k d hk)
     exact⟨_,cap,news,rfl,n1,(λh=>by cases h),(λb' hb'=>by cases hb';exact n2),n3⟩
   ·cases h
  ·rename_i t' l hrow;split at h
   ·rename_i hk;subst hk;cases h;exact r_ (oX hm (hle _ _ hrow) (aV hr))
   ·cases h
  ·cases h
 ·rename_i id sz off n;split at h
  ·rename_i t' l hrow;split at h
   ·rename_i hk;subst hk;split at h
    ·rename_i hsz;cases h;subst hsz;rcases lg (aV hr)with⟨hi,rfl,rfl,p,rfl⟩ | ⟨b,cap,len,q,hi,h1,h2,h3,h4,rfl⟩
     ·have:Fx.sub l 0 0 = []:=by simp[Fx.sub]
      rw[this];exact sE p
     ·obtain⟨rfl,h5,h7⟩:=bX hm (hle _ _ hrow) hi
      have hlen:(Fx.sub l off n).length=n:=by simp only[Fx.sub,Lj,Nh];omega
      obtain⟨news,n1,n2,n3⟩:=vU (g:=g) (w:=w) (b:=b) (q:=q) (ds:=cells F t' (Fx.sub l off n)) aD (λk d hk=>by
       rcases h3 with⟨h3,_⟩ | h3
       ·have h0:n=0:=by omega
        subst h0;simp[Fx.sub,cells]at hk
       ·subst h3;exact h7 _ _ (gJ hk))
      exact⟨_,_,news,by rw[hlen],n1,(λh=>by cases h),(λb' hb'=>by cases hb';exact n2),n3⟩
    ·cases h
   ·cases h
  ·rename_i t' l hrow;split at h
   ·rename_i hk;subst hk;split at h
    ·rename_i hsz;cases h;exact r_ (xJ hm (hle _ _ hrow) hsz (aV hr))
    ·cases h
   ·cases h
  ·cases h
 ·cases h
end
set_option linter.unusedVariables false
set_option linter.unusedSimpArgs false
section
variable{F:Fam}{P:Program}{T:TypeId→Option (TI F)}{o:Oper}{vals:List (Dat F)}{mm:Nat→Option (J8 F)}{c:Nat}{R:Type}{K:Oy F→Option R}{own:Ow}{g g':G}{w w':World}{m m':Nat→Option (J8 F)}{u:Nat→Bool}{a:Act}
theorem nS{α : Type}{b:Nat}{l m r:List α}(h:app b l m=some r):r=l++m∧r.length≤maxLen∧r.length*b≤140737488355328:=by
 unfold app at h;split at h
 ·rename_i hc;cases h;exact⟨rfl,hc.1,hc.2⟩
 ·cases h
theorem gY(t ty e:TypeId)(i:TypeInfo)(ht:P.underlying t=some (.slice e))(hi:P.info? e=some i)(base:Option Addr)(n c:Nat)(hn:n≤c)(q:Option Addr)(c':Nat) :
  (Builtin.append_ #[t,t] ty #[.slice base n c,.slice q 0 c']).run P w = .ok (.slice base n c) w:=by
 cases base<;>cases q<;>simp[Builtin.append_,run_underlying ht,sizeOf,typeInfo,hi,Builtin.lenOf,hn,Builtin.firstCells,storeCells,loadCells,loadCellsFrom]
theorem oi(t ty e e':TypeId)(i:TypeInfo)(ht:P.underlying t=some (.slice e))(hi:P.info? e=some i)
  (b sLen sCap:Nat) (cur:Array Value) (hg:w.heap[b]? = some (.cells cur e' (0,0)))
  (p:Addr) (m c:Nat) (news:List Value) (hl:news.length=m*i.size) (hnews:∀j u,news[j]? = some u→w.cell? (p.add j)=some u) (h1:∀u∈news,u.oneCell'=true)
  (hroom:sLen+m≤sCap) (hfit:sLen*i.size+news.length≤cur.size) :
  (Builtin.append_ #[t,t] ty #[.slice (some ⟨b,0,none⟩) sLen sCap,.slice (some p) m c]).run P w =
   .ok (.slice (some ⟨b,0,none⟩) (sLen+m) sCap) (w.setRow b (cur.toList.take (sLen*i.size)++news++cur.toList.drop (sLen*i.size+news.length)).toArray):=by
 have hf:=run_firstCells_some (P:=P) w i.size m p m c news hl hnews
 have hst:=run_storeCells_at P b (sLen*i.size) e' news 0 cur w hg (by simpa using hfit) h1
 simp only[R4]at hst;simp[Builtin.append_,run_underlying ht,sizeOf,typeInfo,hi,Builtin.lenOf,hroom,hf,Addr.add_lit,hst]
theorem pD{I7:Nat→Prop}{xs ys:List (ND F)}{cur news rest:List Value}(hc:xs.length≤cur.length)(hx:∀(k:Nat)(d:ND F)(x:Value),xs[k]? = some d→cur[k]? = some x→Ju w I7 d x)
  (hn:news.length=ys.length) (hy:∀(k:Nat)(d:ND F)(x:Value),ys[k]? = some d→news[k]? = some x→Ju w I7 d x) :
  ∀(k:Nat)(d:ND F)(x:Value),(xs++ys)[k]? = some d→(cur.take xs.length++news++rest)[k]? = some x→Ju w I7 d x:=by
 intro k d x h1 h2
 have e:(cur.take xs.length).length=xs.length:=by rw[Lj];omega
 rw[MK]at h2;by_cases hk:k<xs.length
 ·rw[ME hk]at h1
  rw[ME (by omega),MV,if_pos hk]at h2
  exact hx k d x h1 h2
 ·rw[Nj (by omega)]at h1
  have hk2:k - xs.length<ys.length:=(I0.1 h1).1
  rw[Nj (by omega),e,ME (by omega)]at h2
  exact hy _ d x h1 h2
theorem dq{t:Ty}{l r:List (ET F t)}:cells F t (l++r)=cells F t l++cells F t r:=by simp[cells]
theorem tD(hT:J5 P T)(hm:Jl own g w m)(hd:∀id,u id=false→g.ids id=none)(hall:∀b,w.heap.size≤b→own.o b)(hfr:u c=false)
  {t e:TypeId} {i te:TI F} (ht:T t=some i) (hde:i.desc = .slice e) (hte:T e=some te) (hz0:0<te.size) {tt:Ty} (hsz:Jm F tt=te.size) {x y:Operand}
  (ho:o.op = .call { callee:=.builtin .append,args:=#[x,y],argTypes:=#[t,t] }) {l0 ys r:List (ET F tt)} (hr:app te.bytes l0 ys=some r) (hsrc:SE g w tt (a.eval y) ys) {rm:List Nat}
  (hdst:(∃p,a.eval x = .slice p 0 0∧l0 = [])∨∃r0 b cap cur e',rm = [r0]∧a.eval x = .slice (some ⟨b,0,none⟩) l0.length cap∧m r0=some (.row tt l0)∧g.ids r0=some (some (b,cap,l0.length,[]))∧w.heap[b]? = some (.cells ⟨cur⟩ e' (0,0))∧l0.length≤cap∧cap≤maxLen∧cur.length=cap*Jm F tt∧
   ∀(k:Nat)(d:ND F)(x:Value),(cells F tt l0)[k]? = some d→cur[k]? = some x→Ju w g.I7 d x) :
  M8 P own m u g w o a c { val:=.c (.KU c),mw:=rm.map (λr=>(r,none))++[(c,some (.row tt r))],nu:=1 }:=by
 have hu:=hT.und _ _ ht;rw[hde]at hu;obtain⟨j,hj,hs,hb,z,hz,hzs,hzl,WQ⟩:=hT.info e te hte
 have MW:∀{v:Value}{w':World},(Builtin.append_ #[t,t] o.type #[a.eval x,a.eval y]).run P w = .ok v w'→(execOp a.eval o).run P w = .ok (.value v) w':=by intro v w' hr;simp only[execOp,ho,resolve,invoke,builtin,LM,MO,L8,QeF,K7,LG,hr]
 obtain⟨rfl,v3,v4⟩:=nS hr;have OY:g.ids c=none:=hd c hfr;have hlen:(l0++ys).length=l0.length+ys.length:=I3;obtain⟨q,cap',news,hyv,n1,n0,n2,n3⟩:=hsrc;rw[hsz]at n1
 have hcl0:(cells F tt l0).length=l0.length*te.size:=by rw[aD,hsz]
 have acu:(cells F tt ys).length=ys.length*te.size:=by rw[aD,hsz]
 have fin:∀{v:Value}{w':World}{pl:Pl},(execOp a.eval o).run P w = .ok (.value v) w'→Jl own (g.name c pl) w' (Ki m (rm.map (λr=>(r,none))++[(c,some (.row tt (l0++ys)))]))→
   Stp m g w (g.name c pl) w'→Ka (F:=F) (g.name c pl) w' (.KU c) v→M8 P own m u g w o a c { val:=.c (.KU c),mw:=rm.map (λr=>(r,none))++[(c,some (.row tt (l0++ys)))],nu:=1 }:=by
  intro v w' pl hr k1 k2 k3;intro next Q hn;unfold Oper.wp;rw[hr];refine hn v w' (g.name c pl) (.c k3) k1 k2 ?_;intro id hu' hx';have hx':id<c∨c+1≤id:=hx'
  have:id≠c:=by omega
  rw[bE _ _ _ this];exact hd id hu'
 have ajM:∀p,l0++ys = []→(execOp a.eval o).run P w = .ok (.value (.slice p 0 0)) w→M8 P own m u g w o a c { val:=.c (.KU c),mw:=rm.map (λr=>(r,none))++[(c,some (.row tt (l0++ys)))],nu:=1 }:=by
  intro p h0 hr;obtain⟨k1,k2⟩:=En (rm:=rm) (id:=c) (t:=tt) hm OY
  exact fin hr (by rw[h0];exact k1) k2 (.MR p (a9 _ _ _))
 have asNew:∀(cap:Nat)(arr:List Value),(l0++ys).length≤cap→cap≤maxLen→arr.length=cap*te.size→(∀(k:Nat)(d:ND F)(x:Value),(cells F tt (l0++ys))[k]? = some d→arr[k]? = some x→Ju w g.I7 d x)→
   (execOp a.eval o).run P w = .ok (.value (.slice (some ⟨w.heap.size,0,none⟩) (l0++ys).length cap)) (w.drew.alloc (.cells ⟨arr⟩ e))→M8 P own m u g w o a c { val:=.c (.KU c),mw:=rm.map (λr=>(r,none))++[(c,some (.row tt (l0++ys)))],nu:=1 }:=by
  intro cap arr h1 h2 h3 h4 hr
  obtain⟨k1,k2⟩:=made (rm:=rm) (id:=c) (cn:=(cap,(l0++ys).length)) (arr:=arr) (t:=e) (B:=.row tt (l0++ys)) hm OY (hall _ (KC _)) (w1:=w.drew) rfl rfl rfl rfl (WT _) (by
   intro g' w' hle hi hh
   refine .inr ⟨w.heap.size,cap,arr,e,hi,hh,h1,h2,by rw[h3,hsz],?_⟩
   intro k d x p q;exact(h4 k d x p q).le hle)
  exact fin hr k1 k2 (.KU (a9 _ _ _) h1 h2)
 have hzc:∀k,(Builtin.zeroCells z.cells k).toList.length=k*te.size:=λk=>by rw[SV,size_zeroCells,hzs]
 have Zm:∀old,(l0++ys).length≤grownCap w (l0++ys).length old e∧grownCap w (l0++ys).length old e≤maxLen:=λold=>⟨grownCap_ge w _ _ _,grownCap_le_maxLen w _ _ _ v3⟩
 have h63:((l0++ys).length:Int)≤9223372036854775807:=by have h:=v3;simp only[maxLen]at h;omega
 rcases hdst with⟨p,hxv,rfl⟩ | ⟨r0,b,cap,cur,e',rfl,hxv,hB0,hi,hbk,hle,hmx,hcl,hcr⟩
 ·simp only[O7]at *;by_cases h0:ys = []
  ·subst h0
   exact ajM p rfl (MW (by rw[hxv,hyv];exact gY t o.type e j hu hj p 0 0 (KC _) q cap'))
  ·have hpos:0<ys.length:=QeU.2 h0
   cases q with
   | none=>exact absurd (n0 rfl).1 h0
   | some b'=>
    have n2':=n2 b' rfl
    have grown:∀{v:Value}{w':World},(Builtin.append_ #[t,t] o.type #[a.eval x,a.eval y]).run P w = .ok v w'→v = .slice (some ⟨w.heap.size,0,none⟩) ys.length (grownCap w ys.length 0 e)→
      w'=w.drew.alloc (.cells (⟨news++(Builtin.zeroCells z.cells (grownCap w ys.length 0 e - ys.length)).toList⟩:Array Value) e)→M8 P own m u g w o a c { val:=.c (.KU c),mw:=rm.map (λr=>(r,none))++[(c,some (.row tt ys))],nu:=1 }:=by
     intro v w' hr hv hw;subst hv hw;obtain⟨g1,g2⟩:=Zm 0;refine asNew (grownCap w ys.length 0 e) (news++(Builtin.zeroCells z.cells (grownCap w ys.length 0 e - ys.length)).toList) g1 g2 ?_ ?_ (MW hr)
     ·rw[I3,n1,hzc,← OQ]
      congr 1
      omega
     ·intro k d x p q;have hk:k<(cells F tt ys).length:=(I0.1 p).1
      rw[ME (by omega)]at q
      exact n3 k d x p q
    cases p with
    | none=>
     have hr:=run_append_nil (P:=P) w t o.type e j z hu hj hz b' ys.length cap' news (by rw[n1,hs]) n2' hpos h63 (by rw[hb];omega)
     refine grown (by rw[hxv,hyv];exact hr) rfl ?_
     congr 2
     apply Array.ext';simp
    | some b0=>
     have hr:=run_append_grow (P:=P) w t o.type e j z hu hj hz b0 0 0 [] (by simp) (by simp) b' ys.length cap' news (by rw[n1,hs]) n2' (by omega) (by simpa using h63)
      (growslice_fits (by omega) (by rw[hb,L_];exact v4))
     simp only[L_]at hr
     refine grown (by rw[hxv,hyv];exact hr) rfl ?_
     congr 2
     apply Array.ext';simp
 ·rw[hsz]at hcl
  have htake:cur.take (cells F tt l0).length=cur.take (l0.length*te.size):=by rw[hcl0]
  have Zb:(cells F tt l0).length≤cur.length:=by rw[hcl0,hcl];exact M5 _ hle
  by_cases h0:ys = []
  ·subst h0;simp only[XI]at *
   have hr:=MW (by rw[hxv,hyv];exact gY t o.type e j hu hj (some ⟨b,0,none⟩) l0.length cap hle q cap')
   obtain⟨k1,k2⟩:=moved (rm:=r0) (id:=c) (RY:=(cap,l0.length)) (w':=w) (B:=.row tt l0) hm OY hB0 rfl hi rfl rfl rfl (KC _) rfl (λ_ _=>rfl) (by
    intro g' hle' hi'
    refine .inr ⟨b,cap,cur,e',hi',hbk,hle,hmx,by rw[hcl,hsz],?_⟩
    intro k d x p q;exact(hcr k d x p q).le hle')
   exact fin hr k1 k2 (.KU (a9 _ _ _) hle hmx)
  ·have hpos:0<ys.length:=QeU.2 h0
   cases q with
   | none=>exact absurd (n0 rfl).1 h0
   | some b'=>
    have n2':=n2 b' rfl;by_cases hroom:l0.length+ys.length≤cap
    ·have hfit:l0.length*j.size+news.length≤(⟨cur⟩:Array Value).size:=by
      rw[hs,n1,← OQ];show _≤cur.length;rw[hcl];exact M5 _ hroom
     have h1:∀u∈news,u.oneCell'=true:=by
      intro x hx;obtain⟨k,hk⟩:=RL hx
      have hlt:k<(cells F tt ys).length:=by have:=(I0.1 hk).1;omega
      exact(n3 k _ x (IZ hlt) hk).oneCell
     have hr:=oi (P:=P) (w:=w) t o.type e e' j hu hj b l0.length cap ⟨cur⟩ hbk b' ys.length cap' news (by rw[n1,hs]) n2' h1 hroom hfit
     rw[hs]at hr
     have hr':=MW (by rw[hxv,hyv];exact hr)
     obtain⟨k1,k2⟩:=moved (rm:=r0) (id:=c) (RY:=(cap,(l0++ys).length)) (w':=w.setRow b (cur.take (l0.length*te.size)++news++cur.drop (l0.length*te.size+news.length)).toArray) (B:=.row tt (l0++ys)) hm OY hB0 rfl hi rfl rfl rfl (KC _) (by simp) (λb'' hne=>setRow_other w b b'' _ hne) (by
      intro g' hle' hi'
      refine .inr ⟨b,cap,cur.take (l0.length*te.size)++news++cur.drop (l0.length*te.size+news.length),e',hi',setRow_heap w b _ _ e' _ hbk,by omega,hmx,?_,?_⟩
      ·simp only[I3,Lj,Nh,n1];rw[hs,n1,← OQ]at hfit;have ajl:(l0.length+ys.length)*te.size≤cur.length:=hfit;rw[OQ]at ajl;rw[hsz,← hcl];omega
      ·intro k d x p q;rw[dq]at p;rw[← htake]at q
       exact(pD Zb hcr (by rw[n1,acu]) n3 k d x p q).le hle')
     rw[← hlen]at hr'
     exact fin hr' k1 k2 (.KU (a9 _ _ _) (by omega) hmx)
    ·have holds:∀(k:Nat)(v:Value),(cur.take (l0.length*te.size))[k]? = some v→w.cell? ((⟨b,0,none⟩:Addr).add k)=some v:=by
      intro k v hk;rw[MV]at hk;split at hk
      ·rw[Addr.add_lit,L_];simp only[World.cell?,hbk];simpa using hk
      ·cases hk
     have hlo:(cur.take (l0.length*te.size)).length=l0.length*j.size:=by rw[Lj,hs];omega
     have hr:=run_append_grow (P:=P) w t o.type e j z hu hj hz ⟨b,0,none⟩ l0.length cap (cur.take (l0.length*te.size)) hlo holds b' ys.length cap' news (by rw[n1,hs]) n2' (by omega) (by rw[← hlen];exact h63)
      (growslice_fits (by omega) (by rw[hb,← hlen];exact v4))
     rw[← hlen]at hr;obtain⟨g1,g2⟩:=Zm cap
     have harr:((cur.take (l0.length*te.size)).toArray++news.toArray++Builtin.zeroCells z.cells (grownCap w (l0++ys).length cap e - (l0++ys).length)) =
       (⟨cur.take (l0.length*te.size)++news++(Builtin.zeroCells z.cells (grownCap w (l0++ys).length cap e - (l0++ys).length)).toList⟩:Array Value):=by
      apply Array.ext';simp
     rw[harr]at hr
     refine asNew (grownCap w (l0++ys).length cap e) (cur.take (l0.length*te.size)++news++(Builtin.zeroCells z.cells (grownCap w (l0++ys).length cap e - (l0++ys).length)).toList) g1 g2 ?_ ?_ (MW (by rw[hxv,hyv];exact hr))
     ·rw[I3,I3,hlo,n1,hzc,hs,← OQ,← hlen,← OQ]
      congr 1
      omega
     ·intro k d x p q;rw[dq]at p;rw[← htake]at q
      exact pD Zb hcr (by rw[n1,acu]) n3 k d x p q
theorem Bq(hT:J5 P T){t e:TypeId}{i te:TI F}(ht:T t=some i)(hde:i.desc = .slice e)(hte:T e=some te)(hz0:0<te.size){x y:Value}{ty:TypeId}{n k:Nat}{cur news:List Value}
  (hx:((∃p,x = .slice p 0 0)∧n=0∧cur = [])∨∃b e' cap,x = .slice (some ⟨b,0,none⟩) n cap∧w.heap[b]? = some (.cells ⟨cur⟩ e' (0,0))∧n≤cap∧cap≤maxLen∧cur.length=cap*te.size)
  (hy:((∃p cap,y = .slice p 0 cap)∧k=0∧news = [])∨∃b' cap',y = .slice (some b') k cap'∧0<k∧news.length=k*te.size∧(∀(j:Nat)(u:Value),news[j]? = some u→w.cell? (b'.add j)=some u)∧∀u∈news,u.oneCell'=true)
  (hlen:n+k≤maxLen) (hby:(n+k)*te.bytes≤140737488355328) :
  ∃v w',(Builtin.append_ #[t,t] ty #[x,y]).run P w = .ok v w'∧w'.os=w.os∧w'.tape=w.tape∧w'.output=w.output∧w.drawn≤w'.drawn∧
   ((n+k=0∧(∃p,v = .slice p 0 0)∧(∃p,x = .slice p 0 0)∧w'=w)∨
    (∃b e' cap arr,x = .slice (some ⟨b,0,none⟩) n cap∧v = .slice (some ⟨b,0,none⟩) (n+k) cap∧w'.heap[b]? = some (.cells ⟨arr⟩ e' (0,0))∧(∀b2,b2≠b→w'.heap[b2]? = w.heap[b2]?)∧w'.heap.size=w.heap.size∧n+k≤cap∧cap≤maxLen∧arr.length=cap*te.size∧
     arr.take ((n+k)*te.size)=cur.take (n*te.size)++news∧(k=0→w'=w))∨
    (∃e' cap arr,v = .slice (some ⟨w.heap.size,0,none⟩) (n+k) cap∧w'.heap[w.heap.size]? = some (.cells ⟨arr⟩ e' (0,0))∧(∀b2,b2<w.heap.size→w'.heap[b2]? = w.heap[b2]?)∧w'.heap.size=w.heap.size+1∧n+k≤cap∧cap≤maxLen∧arr.length=cap*te.size∧
     arr.take ((n+k)*te.size)=cur.take (n*te.size)++news)):=by
 have hu:=hT.und _ _ ht;rw[hde]at hu;obtain⟨j,hj,hs,hb,z,hz,hzs,hzl,WQ⟩:=hT.info e te hte
 have hzc:∀k,(Builtin.zeroCells z.cells k).toList.length=k*te.size:=λk=>by rw[SV,size_zeroCells,hzs]
 have h63:((n+k:Nat):Int)≤9223372036854775807:=by have h:=hlen;simp only[maxLen]at h;omega
 have asNew:∀{v:Value}{cap:Nat}{arr:List Value},(Builtin.append_ #[t,t] ty #[x,y]).run P w = .ok v (w.drew.alloc (.cells ⟨arr⟩ e))→v = .slice (some ⟨w.heap.size,0,none⟩) (n+k) cap→n+k≤cap→cap≤maxLen→arr.length=cap*te.size→arr.take ((n+k)*te.size)=cur.take (n*te.size)++news→
   ∃v w',(Builtin.append_ #[t,t] ty #[x,y]).run P w = .ok v w'∧w'.os=w.os∧w'.tape=w.tape∧w'.output=w.output∧w.drawn≤w'.drawn∧
   ((n+k=0∧(∃p,v = .slice p 0 0)∧(∃p,x = .slice p 0 0)∧w'=w)∨
    (∃b e' cap arr,x = .slice (some ⟨b,0,none⟩) n cap∧v = .slice (some ⟨b,0,none⟩) (n+k) cap∧w'.heap[b]? = some (.cells ⟨arr⟩ e' (0,0))∧(∀b2,b2≠b→w'.heap[b2]? = w.heap[b2]?)∧w'.heap.size=w.heap.size∧n+k≤cap∧cap≤maxLen∧arr.length=cap*te.size∧
     arr.take ((n+k)*te.size)=cur.take (n*te.size)++news∧(k=0→w'=w))∨
    (∃e' cap arr,v = .slice (some ⟨w.heap.size,0,none⟩) (n+k) cap∧w'.heap[w.heap.size]? = some (.cells ⟨arr⟩ e' (0,0))∧(∀b2,b2<w.heap.size→w'.heap[b2]? = w.heap[b2]?)∧w'.heap.size=w.heap.size+1∧n+k≤cap∧cap≤maxLen∧arr.length=cap*te.size∧
     arr.take ((n+k)*te.size)=cur.take (n*te.size)++news)):=by
  intro v cap arr h0 h1 h2 h3 h4 h5;refine⟨v,_,h0,rfl,rfl,rfl,WT _,.inr (.inr ⟨e,cap,arr,h1,?_,?_,?_,h2,h3,h4,h5⟩)⟩
  ·exact heap_alloc_new w.drew (.cells ⟨arr⟩ e)
  ·intro b2 hb2;exact heap_alloc_old w.drew (.cells ⟨arr⟩ e) b2 hb2
  ·rw[World.size_alloc];rfl
 rcases hy with⟨⟨q,cap',rfl⟩,rfl,rfl⟩ | ⟨b',cap',rfl,hpos,n1,n2,h1⟩
 ·rcases hx with⟨⟨p,rfl⟩,rfl,rfl⟩ | ⟨b,e',cap,rfl,hbk,hle,hmx,hcl⟩
  ·exact⟨_,w,gY t ty e j hu hj p 0 0 (KC _) q cap',rfl,rfl,rfl,KC _,.inl ⟨rfl,⟨p,rfl⟩,⟨p,rfl⟩,rfl⟩⟩
  ·refine⟨_,w,gY t ty e j hu hj (some ⟨b,0,none⟩) n cap hle q cap',rfl,rfl,rfl,KC _,.inr (.inl ⟨b,e',cap,cur,rfl,rfl,hbk,λ_ _=>rfl,rfl,hle,hmx,hcl,by simp,λ_=>rfl⟩)⟩
 ·rcases hx with⟨⟨p,rfl⟩,rfl,rfl⟩ | ⟨b,e',cap,rfl,hbk,hle,hmx,hcl⟩
  ·simp only[L_,Nat.zero_mul,List.take_zero,O7]at *;have g1:=grownCap_ge w k 0 e;have g2:=grownCap_le_maxLen w k 0 e hlen
   have hA:(news++(Builtin.zeroCells z.cells (grownCap w k 0 e - k)).toList).length=grownCap w k 0 e*te.size:=by
    rw[I3,n1,hzc,← OQ]
    congr 1
    omega
   have hB:(news++(Builtin.zeroCells z.cells (grownCap w k 0 e - k)).toList).take (k*te.size)=news:=by rw[← n1,List.take_left'];rfl
   cases p with
   | none=>
    have hr:=run_append_nil (P:=P) w t ty e j z hu hj hz b' k cap' news (by rw[n1,hs]) n2 hpos h63 (by rw[hb];omega)
    have harr:(news.toArray++Builtin.zeroCells z.cells (grownCap w k 0 e - k))=(⟨news++(Builtin.zeroCells z.cells (grownCap w k 0 e - k)).toList⟩:Array Value):=by apply Array.ext';simp
    rw[harr]at hr;exact asNew hr rfl g1 g2 hA hB
   | some b0=>
    have hr:=run_append_grow (P:=P) w t ty e j z hu hj hz b0 0 0 [] (by simp) (by simp) b' k cap' news (by rw[n1,hs]) n2 (by omega) (by simpa using h63)
     (growslice_fits (by omega) (by rw[hb,L_];exact hby))
    simp only[L_]at hr
    have harr:(([]:List Value).toArray++news.toArray++Builtin.zeroCells z.cells (grownCap w k 0 e - k))=(⟨news++(Builtin.zeroCells z.cells (grownCap w k 0 e - k)).toList⟩:Array Value):=by apply Array.ext';simp
    rw[harr]at hr;exact asNew hr rfl g1 g2 hA hB
  ·have hlo:(cur.take (n*te.size)).length=n*te.size:=by
    rw[Lj,hcl];exact Nat.min_eq_left (M5 _ hle)
   by_cases hroom:n+k≤cap
   ·have hfit:n*j.size+news.length≤(⟨cur⟩:Array Value).size:=by
     rw[hs,n1,← OQ];show _≤cur.length;rw[hcl];exact M5 _ hroom
    have hr:=oi (P:=P) (w:=w) t ty e e' j hu hj b n cap ⟨cur⟩ hbk b' k cap' news (by rw[n1,hs]) n2 h1 hroom hfit
    rw[hs]at hr
    refine⟨_,_,hr,rfl,rfl,rfl,KC _,.inr (.inl ⟨b,e',cap,cur.take (n*te.size)++news++cur.drop (n*te.size+news.length),rfl,rfl,setRow_heap w b _ _ e' _ hbk,λb2 hne=>setRow_other w b b2 _ hne,by simp,hroom,hmx,?_,?_⟩)⟩
    ·rw[hs]at hfit;have hfit:n*te.size+news.length≤cur.length:=hfit;simp only[I3,Nh,hlo];omega
    ·refine⟨?_,λh=>by omega⟩
     rw[List.take_left'];rw[I3,hlo,n1,← OQ]
   ·have holds:∀(k:Nat)(v:Value),(cur.take (n*te.size))[k]? = some v→w.cell? ((⟨b,0,none⟩:Addr).add k)=some v:=by
     intro k v hk;rw[MV]at hk;split at hk
     ·rw[Addr.add_lit,L_];simp only[World.cell?,hbk];simpa using hk
     ·cases hk
    have hr:=run_append_grow (P:=P) w t ty e j z hu hj hz ⟨b,0,none⟩ n cap (cur.take (n*te.size)) (by rw[hlo,hs]) holds b' k cap' news (by rw[n1,hs]) n2 (by omega) h63
     (growslice_fits (by omega) (by rw[hb];exact hby))
    have g1:=grownCap_ge w (n+k) cap e;have g2:=grownCap_le_maxLen w (n+k) cap e hlen
    have harr:((cur.take (n*te.size)).toArray++news.toArray++Builtin.zeroCells z.cells (grownCap w (n+k) cap e - (n+k))) =
      (⟨cur.take (n*te.size)++news++(Builtin.zeroCells z.cells (grownCap w (n+k) cap e - (n+k))).toList⟩:Array Value):=by
     apply Array.ext';simp
    rw[harr]at hr;refine asNew hr rfl g1 g2 ?_ ?_
    ·rw[I3,I3,hlo,n1,hzc,← OQ,← OQ]
     congr 1
     omega
    ·rw[List.take_left'];rw[I3,hlo,n1,← OQ]
theorem dY:∀{a b:NS},Kr (a++b)=Kr a++Kr b
 | [],b=>rfl
 | none::a,b=>dY (a:=a)
 | some q::a,b=>by obtain⟨x,y⟩:=q;simp only[SS,Kr,dY (a:=a)]
theorem vt{I7:Nat→Prop}{t:Ty}{l:List (ET F t)}{b cap:Nat}{n:Nat×NS}(h:Nc w I7 t l (some (b,cap,n))) :
  ∃cur e,w.heap[b]? = some (.cells ⟨cur⟩ e (0,0))∧cur.length=cap*Jm F t∧n.1=l.length∧l.length≤cap∧cap≤maxLen∧n.2.length=l.length*Jm F t∧(b::Kr n.2).Nodup∧
   (∀(k:Nat)(d:ND F)(x:Value)(pl:Option (Nat×Nat×Nat)),(cells F t l)[k]? = some d→cur[k]? = some x→n.2[k]? = some pl→LJ w I7 d x pl)∧∀u∈cur.take (l.length*Jm F t),u.oneCell'=true:=by
 obtain⟨s1,s2,s3,s4,s5,cur,e,s6,s7,s8⟩:=h;rw[aD]at s4;refine⟨cur,e,s6,s7,s1,s2,s3,s4,s5,s8,?_⟩;intro u hu;obtain⟨k,hk⟩:=RL hu;rw[MV]at hk;split at hk
 ·rename_i hlt
  have:=s8 k _ u _ (IZ (by rw[aD];exact hlt)) hk (IZ (by omega))
  revert this
  generalize(cells F t l)[k]'(by rw[aD];exact hlt)=d
  generalize n.2[k]'(by omega)=pl
  intro h
  cases d with
  | sl t' l'=>
   cases pl with
   | none=>obtain⟨p,rfl⟩:=h.2;rfl
   | some q=>obtain⟨b1,c1,n1⟩:=q;have h2:u = .slice (some ⟨b1,0,none⟩) n1 c1:=h.2;subst h2;rfl
  | _=>exact h.2.2.oneCell
 ·cases hk
theorem tC{I7 Jo:Nat→Prop}{w':World}(hi:∀b,I7 b→Jo b)(hw:∀b,I7 b→w'.heap[b]? = w.heap[b]?){t:Ty}{l ys:List (ET F t)}{ns RV:NS}{cur UE arr:List Value}{b cap:Nat}{e:TypeId}
  (hcur:l.length*Jm F t≤cur.length) (hcur2:ys.length*Jm F t≤UE.length) (hn1:ns.length=l.length*Jm F t) (hn2:RV.length=ys.length*Jm F t)
  (h1:∀(k:Nat)(d:ND F)(x:Value)(pl:Option (Nat×Nat×Nat)),(cells F t l)[k]? = some d→cur[k]? = some x→ns[k]? = some pl→LJ w I7 d x pl)
  (h2:∀(k:Nat)(d:ND F)(x:Value)(pl:Option (Nat×Nat×Nat)),(cells F t ys)[k]? = some d→UE[k]? = some x→RV[k]? = some pl→LJ w I7 d x pl)
  (hh:w'.heap[b]? = some (.cells ⟨arr⟩ e (0,0))) (hlen:(l++ys).length≤cap) (hmx:cap≤maxLen) (harr:arr.length=cap*Jm F t) (htake:arr.take ((l.length+ys.length)*Jm F t)=cur.take (l.length*Jm F t)++UE.take (ys.length*Jm F t))
  (hnd:(b::(Kr ns++Kr RV)).Nodup) (hold:∀b2∈Kr ns++Kr RV,w'.heap[b2]? = w.heap[b2]?):Nc w' Jo t (l++ys) (some (b,cap,(l++ys).length,ns++RV)):=by
 have hc1:(cells F t l).length=l.length*Jm F t:=aD;have hc2:(cells F t ys).length=ys.length*Jm F t:=aD
 refine⟨rfl,hlen,hmx,?_,by rw[dY];exact hnd,arr,e,hh,harr,?_⟩
 ·rw[aD,I3,I3,hn1,hn2,OQ]
 ·intro k d x pl p1 p2 p3;rw[dq]at p1
  have hk:k<(l.length+ys.length)*Jm F t:=by have:=(I0.1 p1).1;rw[I3,hc1,hc2,← OQ]at this;exact this
  have p2':(arr.take ((l.length+ys.length)*Jm F t))[k]? = some x:=by rw[MV,if_pos hk];exact p2
  rw[htake]at p2'
  have e1:(cur.take (l.length*Jm F t)).length=l.length*Jm F t:=by rw[Lj];omega
  have fin:∀{d:ND F}{pl:Option (Nat×Nat×Nat)},(∀b c,pl=some (b,c)→b∈Kr ns++Kr RV)→LJ w I7 d x pl→LJ w' Jo d x pl:=λhm h=>h.Mv hi hw (λb c e=>hold b (hm b c e));by_cases hk1:k<l.length*Jm F t
  ·rw[ME (by omega)]at p1
   rw[ME (by omega),MV,if_pos hk1]at p2'
   rw[ME (by omega)]at p3
   refine fin ?_ (h1 k d x pl p1 p2' p3);rintro b c rfl;exact WJ _ (fa p3)
  ·rw[Nj (by omega),hc1]at p1
   rw[Nj (by omega),e1,MV]at p2'
   rw[Nj (by omega),hn1]at p3
   split at p2'
   ·refine fin ?_ (h2 _ d x pl p1 p2' p3);rintro b c rfl;exact WK _ (fa p3)
   ·cases p2'
theorem rC(hT:J5 P T)(hm:Jl own g w m)(hd:∀id,u id=false→g.ids id=none)(hall:∀b,w.heap.size≤b→own.o b)(hfr:u c=false)
  {t e:TypeId} {i te:TI F} (ht:T t=some i) (hde:i.desc = .slice e) (hte:T e=some te) (hz0:0<te.size) {tt:Ty} (hsz:Jm F tt=te.size) {x y:Operand}
  (ho:o.op = .call { callee:=.builtin .append,args:=#[x,y],argTypes:=#[t,t] }) {l0 ys r:List (ET F tt)} (hr:app te.bytes l0 ys=some r) {rm:List Nat} {WO ply:Pl}
  (hx:Nc w g.I7 tt l0 WO) (hy:Nc w g.I7 tt ys ply) (hxv:Ll WO (a.eval x)) (hyv:Ll ply (a.eval y))
  (hbx:∀b0 c,WO=some (b0,c)→∀b∈b0::Kr c.2.2,∃r∈rm,∃B0,m r=some B0∧B0.owned=true∧g.blk r b) (hby:∀b0 c,ply=some (b0,c)→∀b∈b0::Kr c.2.2,∃r∈rm,∃B0,m r=some B0∧B0.owned=true∧g.blk r b)
  (hdj:∀b0 c b1 c1,WO=some (b0,c)→ply=some (b1,c1)→∀b∈b0::Kr c.2.2,b∉b1::Kr c1.2.2) :
  M8 P own m u g w o a c { val:=.c (.KU c),mw:=rm.map (λr=>(r,none))++[(c,some (.KR tt r))],nu:=1 }:=by
 have MW:∀{v:Value}{w':World},(Builtin.append_ #[t,t] o.type #[a.eval x,a.eval y]).run P w = .ok v w'→(execOp a.eval o).run P w = .ok (.value v) w':=by intro v w' hr;simp only[execOp,ho,resolve,invoke,builtin,LM,MO,L8,QeF,K7,LG,hr]
 obtain⟨rfl,v3,v4⟩:=nS hr;have OY:g.ids c=none:=hd c hfr;have hlen:(l0++ys).length=l0.length+ys.length:=I3
 have fin:∀{v:Value}{w':World}{pl:Pl},(execOp a.eval o).run P w = .ok (.value v) w'→Jl own (g.name c pl) w' (Ki m (rm.map (λr=>(r,none))++[(c,some (.KR tt (l0++ys)))]))∧
   Stp m g w (g.name c pl) w'→Ka (F:=F) (g.name c pl) w' (.KU c) v→M8 P own m u g w o a c { val:=.c (.KU c),mw:=rm.map (λr=>(r,none))++[(c,some (.KR tt (l0++ys)))],nu:=1 }:=by
  intro v w' pl hr k k3;intro next Q hn;unfold Oper.wp;rw[hr];refine hn v w' (g.name c pl) (.c k3) k.1 k.2 ?_;intro id hu' hx';have hx':id<c∨c+1≤id:=hx'
  have:id≠c:=by omega
  rw[bE _ _ _ this];exact hd id hu'
 have low:∀{b:Nat},(∃r∈rm,∃B0,m r=some B0∧B0.owned=true∧g.blk r b)→b<w.heap.size:=by rintro b ⟨r,_,B0,h1,h2,h3⟩;exact(hm.ok r B0 h1).place hm.I7 (J8.MX h2) h3
 have hX:∃(ns:NS)(cur:List Value),ns.length=l0.length*te.size∧l0.length*te.size≤cur.length∧(Kr ns).Nodup∧(∀(k:Nat)(d:ND F)(x:Value)(pl:Option (Nat×Nat×Nat)),(cells F tt l0)[k]? = some d→cur[k]? = some x→ns[k]? = some pl→LJ w g.I7 d x pl)∧
   (∀b∈Kr ns,∃b0 c,WO=some (b0,c)∧b∈Kr c.2.2∧b≠b0)∧
   (((∃p,a.eval x = .slice p 0 0)∧l0.length=0∧cur = [])∨∃b e' cap,a.eval x = .slice (some ⟨b,0,none⟩) l0.length cap∧w.heap[b]? = some (.cells ⟨cur⟩ e' (0,0))∧l0.length≤cap∧cap≤maxLen∧cur.length=cap*te.size∧∃c,WO=some (b,c)∧b∉Kr ns):=by
  cases WO with
  | none=>
   have hx:l0 = []:=hx;subst hx
   exact⟨[],[],by simp,by simp,Zz,λk d x pl h=>by simp[cells]at h,λb hb=>by simp[Kr]at hb,.inl ⟨hxv,rfl,rfl⟩⟩
  | some q=>
   obtain⟨b,cap,n⟩:=q;obtain⟨cur,e',s1,s2,s3,s4,s5,s6,s7,s8,s9⟩:=vt hx;have s7':=PI.1 s7;have hxv:a.eval x = .slice (some ⟨b,0,none⟩) n.1 cap:=hxv;rw[hsz]at s2 s6
   refine⟨n.2,cur,s6,by rw[s2];exact M5 _ s4,s7'.2,s8,λb1 hb=>⟨b,_,rfl,hb,λe=>s7'.1 (e▸hb)⟩,.inr ⟨b,e',cap,by rw[hxv,s3],s1,s4,s5,s2,_,rfl,s7'.1⟩⟩
 have hY:∃(ns:NS)(cur:List Value),ns.length=ys.length*te.size∧ys.length*te.size≤cur.length∧(Kr ns).Nodup∧(∀(k:Nat)(d:ND F)(x:Value)(pl:Option (Nat×Nat×Nat)),(cells F tt ys)[k]? = some d→cur[k]? = some x→ns[k]? = some pl→LJ w g.I7 d x pl)∧
   (∀b∈Kr ns,∃b0 c,ply=some (b0,c)∧b∈Kr c.2.2)∧
   (((∃p cap,a.eval y = .slice p 0 cap)∧ys.length=0∧cur.take (ys.length*te.size) = [])∨∃b' cap',a.eval y = .slice (some b') ys.length cap'∧0<ys.length∧(cur.take (ys.length*te.size)).length=ys.length*te.size∧(∀(j:Nat)(u:Value),(cur.take (ys.length*te.size))[j]? = some u→w.cell? (b'.add j)=some u)∧∀u∈cur.take (ys.length*te.size),u.oneCell'=true):=by
  cases ply with
  | none=>
   have hy:ys = []:=hy;subst hy;obtain⟨p,hyv⟩:=hyv
   exact⟨[],[],by simp,by simp,Zz,λk d x pl h=>by simp[cells]at h,λb hb=>by simp[Kr]at hb,.inl ⟨⟨p,0,hyv⟩,rfl,by simp⟩⟩
  | some q=>
   obtain⟨b,cap,n⟩:=q;obtain⟨cur,e',s1,s2,s3,s4,s5,s6,s7,s8,s9⟩:=vt hy;have s7':=PI.1 s7;have hyv:a.eval y = .slice (some ⟨b,0,none⟩) n.1 cap:=hyv;rw[hsz]at s2 s6 s9
   have hle:ys.length*te.size≤cur.length:=by rw[s2];exact M5 _ s4
   refine⟨n.2,cur,s6,hle,s7'.2,s8,λb1 hb=>⟨b,_,rfl,hb⟩,?_⟩;by_cases h0:ys.length=0
   ·exact .inl ⟨⟨_,cap,by rw[hyv,s3,h0]⟩,h0,by rw[h0];simp⟩
   ·refine .inr ⟨_,cap,by rw[hyv,s3],by omega,by rw[Lj];omega,?_,s9⟩
    intro j u hj;rw[MV]at hj;split at hj
    ·rw[Addr.add_lit,L_];simp only[World.cell?,s1];simpa using hj
    ·cases hj
 obtain⟨ns,cur,x1,x2,x3,x4,x5,x6⟩:=hX;obtain⟨RV,UE,y1,y2,y3,y4,y5,y6⟩:=hY
 have inX:∀b∈Kr ns,∃r∈rm,∃B0,m r=some B0∧B0.owned=true∧g.blk r b:=by intro b hb;obtain⟨b0,c,e1,e2,_⟩:=x5 b hb;exact hbx b0 c e1 b (PG _ e2)
 have inY:∀b∈Kr RV,∃r∈rm,∃B0,m r=some B0∧B0.owned=true∧g.blk r b:=by intro b hb;obtain⟨b0,c,e1,e2⟩:=y5 b hb;exact hby b0 c e1 b (PG _ e2)
 have hXY:(Kr ns++Kr RV).Nodup:=by refine WI.2 ⟨x3,y3,?_⟩;rintro b hb b1 hb1 rfl;obtain⟨b0,c,e1,e2,_⟩:=x5 b hb;obtain⟨b1,c1,f1,f2⟩:=y5 b hb1;exact hdj _ _ _ _ e1 f1 b (PG _ e2) (PG _ f2)
 have Xk:∀b∈Kr ns++Kr RV,∃r∈rm,∃B0,m r=some B0∧B0.owned=true∧g.blk r b:=by
  intro b hb;rcases Mr.1 hb with hb | hb
  ·exact inX b hb
  ·exact inY b hb
 have hx0:((∃p,a.eval x = .slice p 0 0)∧l0.length=0∧cur = [])∨∃b e' cap,a.eval x = .slice (some ⟨b,0,none⟩) l0.length cap∧w.heap[b]? = some (.cells ⟨cur⟩ e' (0,0))∧l0.length≤cap∧cap≤maxLen∧cur.length=cap*te.size:=by
  rcases x6 with h | ⟨b,e',cap,h1,h2,h3,h4,h5,_⟩
  ·exact .inl h
  ·exact .inr ⟨b,e',cap,h1,h2,h3,h4,h5⟩
 obtain⟨v,w',hrun,o1,o2,o3,o4,hcase⟩:=Bq (P:=P) (w:=w) (ty:=o.type) hT ht hde hte hz0 hx0 y6 (by rw[← hlen];exact v3) (by rw[← hlen];exact v4)
 have hrun':=MW hrun;rw[← hsz]at *;rcases hcase with⟨h0,⟨p,rfl⟩,_,rfl⟩ | ⟨b,e',cap,arr,hxe,rfl,h1,h2,h3,h4,h5,h6,h7,h8⟩ | ⟨e',cap,arr,rfl,h1,h2,h3,h4,h5,h6,h7⟩
 ·have hnil:l0++ys = []:=O9 (by omega)
  refine fin (pl:=none) hrun' (gj hm OY (λ_ _ h=>by cases h) rfl rfl rfl (KC _) (KC _) (λ_ _ _=>rfl) (λg' _ hi=>⟨none,hi,hnil⟩)) (.MR p (a9 _ _ _))
 ·rcases x6 with⟨⟨p,hp⟩,_,rfl⟩ | ⟨b1,e1,cap1,hp,hh,_,_,_,c1,hpl,hnb⟩
  ·rw[hxe]at hp
   injection hp with e1 e2 e3
   subst e3
   have hy0:ys.length=0:=by omega
   have hnil:l0++ys = []:=O9 (by omega)
   have:=h8 hy0;subst this
   refine fin (pl:=none) hrun' (gj hm OY (λ_ _ h=>by cases h) rfl rfl rfl (KC _) (KC _) (λ_ _ _=>rfl) (λg' _ hi=>⟨none,hi,hnil⟩)) ?_
   rw[e2,hy0];exact .MR _ (a9 _ _ _)
  ·rw[hxe]at hp;cases hp;have hblk:=hbx b c1 hpl b WY
   have anW:b∉Kr RV:=by intro hb;obtain⟨b2,c2,f1,f2⟩:=y5 b hb;exact hdj _ _ _ _ hpl f1 b WY (PG _ f2)
   have hnd:(b::(Kr ns++Kr RV)).Nodup:=PI.2 ⟨λhb=>(Mr.1 hb).elim hnb anW,hXY⟩
   refine fin (pl:=some (b,cap,(l0++ys).length,ns++RV)) hrun' (gj hm OY ?_ o1 o2 o3 o4 (by omega) ?_ ?_) ?_
   ·intro b0 c0 e0 b1 hb1;cases e0;rcases Lr.1 hb1 with rfl | hb1
    ·exact .inr hblk
    ·simp only[dY]at hb1;exact .inr (Xk b1 hb1)
   ·intro b2 hb2 hno;refine h2 b2 ?_;rintro rfl;obtain⟨r,hr,B0,q1,q2,q3⟩:=hblk;exact hno r hr B0 q1 q2 q3
   ·intro g' hle hi
    refine⟨_,hi,tC hle.I7 hle.heap x2 y2 x1 y1 x4 y4 h1 (by omega) h5 h6 h7 hnd ?_⟩
    intro b2 hb2;refine h2 b2 ?_;rintro rfl;exact(PI.1 hnd).1 hb2
   ·rw[← hlen]
    exact .KU (n:=((l0++ys).length,ns++RV)) (a9 _ _ _) (by dsimp only;omega) h5
 ·have hnd:(w.heap.size::(Kr ns++Kr RV)).Nodup:=PI.2 ⟨λhb=>Nat.lt_irrefl _ (low (Xk _ hb)),hXY⟩
  refine fin (pl:=some (w.heap.size,cap,(l0++ys).length,ns++RV)) hrun' (gj hm OY ?_ o1 o2 o3 o4 (by omega) ?_ ?_) ?_
  ·intro b0 c0 e0 b1 hb1;cases e0;rcases Lr.1 hb1 with rfl | hb1
   ·exact .inl ⟨KC _,by omega,hall _ (KC _)⟩
   ·simp only[dY]at hb1;exact .inr (Xk b1 hb1)
  ·intro b2 hb2 _;exact h2 b2 hb2
  ·intro g' hle hi
   exact⟨_,hi,tC hle.I7 hle.heap x2 y2 x1 y1 x4 y4 h1 (by omega) h5 h6 h7 hnd (λb2 hb2=>h2 b2 (low (Xk b2 hb2)))⟩
  ·rw[← hlen]
   exact .KU (n:=((l0++ys).length,ns++RV)) (a9 _ _ _) (by dsimp only;omega) h5
theorem qE(hm:Jl own g w m){id:Nat}{t:Ty}{l:List (ET F t)}(h:m id=some (.KR t l)){v:Value}(hv:Ka (F:=F) g w (.KU id) v):∃pl,g.ids id=some pl∧Nc w g.I7 t l pl∧Ll pl v:=by
 obtain⟨pl,k1,k2⟩:=hm.ok id _ h;refine⟨pl,k1,k2,?_⟩;rcases a_ hv with⟨hi,p,rfl⟩ | ⟨b,c,n,hi,h1,h2,rfl⟩
 ·rw[hi]at k1;cases k1;exact⟨p,rfl⟩
 ·rw[hi]at k1;cases k1;rfl
theorem z7(hT:J5 P T){t0 t1:TypeId}{x y:Operand}(ho:o.op = .call { callee:=.builtin .append,args:=#[x,y],argTypes:=#[t0,t1] }):Rule P o vals mm c K (vR T vals mm c K t0 t1):=by
 unfold vR;refine au (λ_=>ah) (λRI=>?_)
 have anK:t1=t0:=by simpa using RI
 subst anK;split
 ·rename_i e sz bt zero _ _ ht;split
  ·exact ah
  ·rename_i te hte;split
   ·exact ah
   ·rename_i tt RI;have hsz:=hT.ty e te tt hte RI;refine au (λ_=>ah) (λhz0=>?_);split
    ·rename_i rm l0 ys hnr;refine aC λr hr=>?_;intro r' hr';refine⟨_,hr',?_⟩;intro own g w a m u hle hm hd hall hfr hrep;rw[ho]at hrep;simp only[Op.operands,Call.operands,K7,LG,QdM,SQ,O7]at hrep;unfold AH at hnr;split at hnr
     ·rename_i id2;split at hnr
      ·rename_i t2 l2 hrow;split at hnr
       ·rename_i hk;subst hk;simp only[K3,Prod.mk.injEq]at hnr;obtain⟨rfl,rfl,h⟩:=hnr;subst h;obtain⟨h1,h2⟩:=KM hrep;obtain⟨pl,k1,k2,k3⟩:=qE hm (hle _ _ hrow) (aV h2)
        refine rC (WO:=none) hT hm hd hall (hfr 0 (by simp)) ht rfl hte (by omega) hsz ho hr rfl k2 (mu h1) k3 (λ_ _ h=>by cases h) ?_ (λ_ _ _ _ h=>by cases h)
        rintro b0 c rfl b hb
        exact⟨id2,by simp,_,hle _ _ hrow,rfl,b0,c,k1,hb⟩
       ·cases hnr
      ·cases hnr
     ·rename_i id id2;split at hnr
      ·rename_i t1 l1 t2 l2 V6 hrow;split at hnr
       ·rename_i hk;subst hk;split at hnr
        ·rename_i hk;subst hk;split at hnr
         ·cases hnr
         ·rename_i hne;simp only[K3,Prod.mk.injEq]at hnr;obtain⟨rfl,h,h'⟩:=hnr;subst h h';obtain⟨h1,h2⟩:=KM hrep;obtain⟨pl,k1,k2,k3⟩:=qE hm (hle _ _ hrow) (aV h2);obtain⟨WO,q1,q2,q3⟩:=qE hm (hle _ _ V6) (aV h1)
          refine rC hT hm hd hall (hfr 0 (by simp)) ht rfl hte (by omega) hsz ho hr q2 k2 q3 k3 ?_ ?_ ?_
          ·rintro b0 c rfl b hb
           exact⟨id,by simp,_,hle _ _ V6,rfl,b0,c,q1,hb⟩
          ·rintro b0 c rfl b hb
           exact⟨id2,by simp,_,hle _ _ hrow,rfl,b0,c,k1,hb⟩
          ·rintro b0 c b1 c1 rfl rfl b hb hb1;have:=hm.OB id id2 _ _ b (hle _ _ V6) (hle _ _ hrow) rfl rfl ⟨b0,c,q1,hb⟩ ⟨b1,c1,k1,hb1⟩;subst this;exact hne (ba _)
        ·cases hnr
       ·cases hnr
      ·cases hnr
     ·cases hnr
    split
    ·rename_i dx dy;split
     ·exact ah
     ·rename_i ys hys;split
      ·refine aC λr hr=>?_;intro r' hr';refine⟨_,hr',?_⟩;intro own g w a m u hle hm hd hall hfr hrep;rw[ho]at hrep;simp only[Op.operands,Call.operands,K7,LG,QdM,SQ,O7]at hrep;obtain⟨h1,h2⟩:=KM hrep;obtain⟨p,hp⟩:=mu h1
       exact tD (rm:=[]) hT hm hd hall (hfr 0 (by simp)) ht rfl hte (by omega) hsz ho hr (uQ hm hle hys h2) (.inl ⟨p,hp,rfl⟩)
      ·rename_i id;split
       ·rename_i t' l hrow;split
        ·rename_i hk;subst hk;refine aC λr hr=>?_;intro r' hr';refine⟨_,hr',?_⟩;intro own g w a m u hle hm hd hall hfr hrep;rw[ho]at hrep;simp only[Op.operands,Call.operands,K7,LG,QdM,SQ,O7]at hrep;obtain⟨h1,h2⟩:=KM hrep
         refine tD (rm:=[id]) hT hm hd hall (hfr 0 (by simp)) ht rfl hte (by omega) hsz ho hr (uQ hm hle hys h2) ?_
         rcases a_ (aV h1)with⟨hi,p,hv⟩ | ⟨b,cap,n,hi,h3,h4,hv⟩
         ·rcases hm.ok id _ (hle _ _ hrow)with⟨_,rfl⟩ | ⟨_,_,_,_,k1,_⟩
          ·exact .inl ⟨p,hv,rfl⟩
          ·rw[hi]at k1;cases k1
         ·rcases hm.ok id _ (hle _ _ hrow)with⟨k1,_⟩ | ⟨b',cap',cur,e',k1,k2,k3,k4,k5,k6⟩
          ·rw[hi]at k1;cases k1
          ·rw[hi]at k1;cases k1;exact .inr ⟨id,b,cap,cur,e',rfl,hv,hle _ _ hrow,hi,k2,k3,k4,k5,k6⟩
        ·exact ah
       ·exact ah
      ·exact ah
    ·exact ah
 ·exact ah
theorem xj{t:Ty}{l ys:List (ET F t)}{a n:Nat}(h:a+min n ys.length≤l.length):cells F t (LP l a n ys)=(cells F t l).take (a*Jm F t)++(cells F t ys).take (n*Jm F t)++(cells F t l).drop (a*Jm F t+((cells F t ys).take (n*Jm F t)).length):=by
 have h1:cells F t (l.take a)=(cells F t l).take (a*Jm F t):=by have:=fy (F:=F) (l:=l) (a:=0) (n:=a);simpa[Fx.sub]using this
 have h2:cells F t (ys.take n)=(cells F t ys).take (n*Jm F t):=by have:=fy (F:=F) (l:=ys) (a:=0) (n:=n);simpa[Fx.sub]using this
 have h3:∀k,cells F t (l.drop k)=(cells F t l).drop (k*Jm F t):=by
  intro k;have:=fy (F:=F) (l:=l) (a:=k) (n:=l.length);unfold Fx.sub at this
  rw[XK (by simp)]at this
  rw[this,XK];rw[Nh,aD];omega
 unfold LP;rw[dq,dq,h1,h2,h3]
 congr 2
 rw[Lj,aD,OQ]
 congr 1
 exact(QdV _ _ _).symm
theorem yp{t t1 ty e:TypeId}{j:TypeInfo}(hu:P.underlying t=some (.slice e))(hj:P.info? e=some j){b q dLen dCap:Nat}{p:Option Addr}{sLen sCap:Nat}{cur news:List Value}{e':TypeId}
  (hb:w.heap[b]? = some (.cells ⟨cur⟩ e' (0,0))) (hl:news.length=sLen*j.size) (hp0:p=none→sLen=0) (hp:∀p',p=some p'→∀(k:Nat)(x:Value),news[k]? = some x→w.cell? (p'.add k)=some x)
  (h1:∀x∈news,x.oneCell'=true) (hfit:q+(news.take (dLen*j.size)).length≤cur.length) :
  (Builtin.copy_ #[t,t1] ty #[.slice (some ⟨b,q,none⟩) dLen dCap,.slice p sLen sCap]).run P w =
    .ok (goInt ((min sLen dLen:Nat):Int)) (w.setRow b (cur.take q++news.take (dLen*j.size)++cur.drop (q+(news.take (dLen*j.size)).length)).toArray):=by
 have hn:(news.take (dLen*j.size)).length=(min sLen dLen)*j.size:=by rw[Lj,hl,QdV,Nat.min_comm]
 have hst:=run_storeCells_at P b q e' (news.take (dLen*j.size)) 0 ⟨cur⟩ w hb (by simpa using hfit) (λv hv=>h1 v (Uu hv))
 simp only[R4]at hst
 cases p with
 | none=>
  have h0:=hp0 rfl;subst h0
  have hnil:news = []:=O9 (by simpa using hl)
  subst hnil;simp only[List.take_nil]at hst ⊢;have hm:Nat.min 0 dLen=0:=Nat.zero_min dLen;have hm2:min 0 dLen=0:=Nat.zero_min dLen;simp only[Builtin.copy_,LM,MO,run_underlying hu,Builtin.lenOf,Builtin.firstCells,sizeOf,typeInfo,run_program,hj,L8,List.getElem?_toArray,hst,hm,hm2];simp[Builtin.copy_,run_underlying hu,Builtin.lenOf,Builtin.firstCells,sizeOf,typeInfo,hj,hst,hm]
 | some p'=>
  have hf:=run_firstCells_some (P:=P) w j.size (min sLen dLen) p' sLen sCap (news.take (dLen*j.size)) hn (λk x hx=>by
   rw[MV]at hx;split at hx
   ·exact hp p' rfl k x hx
   ·cases hx)
  have hm:Nat.min sLen dLen=min sLen dLen:=rfl
  have hc:(((min sLen dLen:Nat)):Int)=min (sLen:Int) (dLen:Int):=by omega
  simp[Builtin.copy_,run_underlying hu,Builtin.lenOf,sizeOf,typeInfo,hj,hf,hm,hst,hc]
theorem jT{α : Type}{l ys:List α}{a n:Nat}(h:a+min n ys.length≤l.length):(LP l a n ys).length=l.length:=by unfold LP;simp only[I3,Lj,Nh];omega
theorem xb(hT:J5 P T)(hm:Jl own g w m)(hd:∀id,u id=false→g.ids id=none)
  {t t1 e:TypeId} {i te:TI F} (ht:T t=some i) (hde:i.desc = .slice e) (hte:T e=some te) {tt:Ty} (hsz:Jm F tt=te.size) {x y:Operand}
  (ho:o.op = .call { callee:=.builtin .copy,args:=#[x,y],argTypes:=#[t,t1] }) {l ys:List (ET F tt)} {id off n:Nat} (hrow:m id=some (.row tt l)) (hsrc:SE g w tt (a.eval y) ys)
  (hdst:(g.ids id=none∨g.ids id=some none)∧off=0∧n=0∧(∃p,a.eval x = .slice p 0 0)∨∃b q dCap cap,g.ids id=some (some (b,cap,l.length,[]))∧a.eval x = .slice (some ⟨b,q,none⟩) n dCap∧off+n≤l.length∧(n=0∨q=off*Jm F tt)) :
  M8 P own m u g w o a c { val:=.c (.im (.i .i64 (min n ys.length:Nat))),mw:=[(id,some (.row tt (LP l off n ys)))] }:=by
 have hu:=hT.und _ _ ht;rw[hde]at hu;obtain⟨j,hj,hs,hb,z,hz,hzs,hzl,WQ⟩:=hT.info e te hte
 have MW:∀{v:Value}{w':World},(Builtin.copy_ #[t,t1] o.type #[a.eval x,a.eval y]).run P w = .ok v w'→(execOp a.eval o).run P w = .ok (.value v) w':=by intro v w' hr;simp only[execOp,ho,resolve,invoke,builtin,LM,MO,L8,QeF,K7,LG,hr]
 obtain⟨q',cap',news,hyv,n1,n0,n2,n3⟩:=hsrc
 have same:∀{l':List (ET F tt)},l'=l→Ki m [(id,some (.row tt l'))]=m:=by
  rintro l' rfl
  funext x
  simp only[Ki];split
  ·rename_i hx;rw[← M_ hx,hrow]
  ·rfl
 have h1:∀x∈news,x.oneCell'=true:=by
  intro x hx;obtain⟨k,hk⟩:=RL hx
  have hlt:k<(cells F tt ys).length:=by have:=(I0.1 hk).1;rw[aD];omega
  exact(n3 k _ x (IZ hlt) hk).oneCell
 rcases hdst with⟨hid,rfl,rfl,p,hxv⟩ | ⟨b,q,dCap,cap,hid,hxv,hoff,hq⟩
 ·have hl:LP l 0 0 ys=l:=by simp[LP]
  have hrun:(execOp a.eval o).run P w = .ok (.value (goInt 0)) w:=by
   refine MW ?_;rw[hxv,hyv];have e1:Nat.min ys.length 0=0:=Nat.min_zero _
   cases p<;>cases q'<;>simp[Builtin.copy_,run_underlying hu,Builtin.lenOf,Builtin.firstCells,sizeOf,typeInfo,hj,e1,storeCells,loadCells,loadCellsFrom]
  intro next Q hn;unfold Oper.wp;rw[hrun]
  refine hn _ w g ?_ (by rw[same hl];exact hm) (.refl _ _ _) (λid hu _=>hd id hu)
  have:((min 0 ys.length:Nat):Int)=0:=by simp
  rw[this];exact LU _ _
 ·rcases hm.ok id _ hrow with⟨k1,_⟩ | ⟨b',cap2,cur,e',k1,k2,k3,k4,k5,k6⟩
  ·rw[k1]at hid;cases hid
  ·rw[k1]at hid;cases hid;have hcl:(cells F tt l).length=l.length*Jm F tt:=aD
   have hcur:(cells F tt l).length≤cur.length:=by rw[hcl,k5];exact M5 _ k3
   have hm1:off+min n ys.length≤l.length:=by omega
   by_cases hn0:n=0
   ·
    subst hn0
    have hrun:=yp (P:=P) (w:=w) (t1:=t1) (ty:=o.type) (dLen:=0) (dCap:=dCap) (q:=0) (p:=q') (sLen:=ys.length) (sCap:=cap') hu hj k2 (by rw[n1,hsz,hs]) (λh=>by rw[(n0 h).1];rfl) n2 h1 (by simp)
    have hrun':(execOp a.eval o).run P w = .ok (.value (goInt 0)) w:=by
     refine MW ?_;rw[hxv,hyv];have e1:Nat.min ys.length 0=0:=Nat.min_zero _
     cases q'<;>simp[Builtin.copy_,run_underlying hu,Builtin.lenOf,Builtin.firstCells,sizeOf,typeInfo,hj,e1,storeCells,loadCells,loadCellsFrom]
    have hl:LP l off 0 ys=l:=by simp[LP]
    intro next Q hn;unfold Oper.wp;rw[hrun']
    refine hn _ w g ?_ (by rw[same hl];exact hm) (.refl _ _ _) (λid hu _=>hd id hu)
    have:((min 0 ys.length:Nat):Int)=0:=by simp
    rw[this];exact LU _ _
   ·have hq:q=off*Jm F tt:=hq.resolve_left hn0;subst hq
    have htk:(news.take (n*j.size)).length=min n ys.length*Jm F tt:=by rw[Lj,n1,hs,← hsz,QdV]
    have hfit:off*Jm F tt+(news.take (n*j.size)).length≤cur.length:=by rw[htk,← OQ];have:(off+min n ys.length)*Jm F tt≤l.length*Jm F tt:=M5 _ hm1;omega
    have hrun:=yp (P:=P) (w:=w) (t1:=t1) (ty:=o.type) (dLen:=n) (dCap:=dCap) (q:=off*Jm F tt) (p:=q') (sLen:=ys.length) (sCap:=cap') hu hj k2 (by rw[n1,hsz,hs]) (λh=>by rw[(n0 h).1];rfl) n2 h1 hfit
    obtain⟨w1,w2⟩:=sD (B':=.row tt (LP l off n ys)) (arr:=cur.take (off*Jm F tt)++news.take (n*j.size)++cur.drop (off*Jm F tt+(news.take (n*j.size)).length)) hm hrow rfl k1 k2 (by
     intro hh hle'
     refine .inr ⟨b,cap,_,e',by rw[jT hm1];exact k1,hh,by rw[jT hm1];exact k3,k4,?_,?_⟩
     ·simp only[I3,Lj,Nh];rw[Lj]at hfit;omega
     ·intro k d x p q;refine Ju.le hle' ?_;rw[xj hm1]at p
      have e1:n*j.size=n*Jm F tt:=by rw[hs,hsz]
      rw[e1]at q htk;refine qu (w:=w) (I7:=g.I7) (cs:=cells F tt l) (ds:=(cells F tt ys).take (n*Jm F tt)) (cur:=cur) (vs:=news.take (n*Jm F tt)) (q:=off*Jm F tt) ?_ hcur k6 ?_ ?_ k d x p q
      ·rw[Lj,aD,aD,QdV,← OQ];exact M5 _ hm1
      ·rw[htk,Lj,aD,QdV]
      ·intro k d x h3 h4;rw[MV]at h3 h4;split at h3
       ·rename_i hk;rw[if_pos hk]at h4;exact n3 k d x h3 h4
       ·cases h3)
    intro next Q hn;unfold Oper.wp
    rw[MW (by rw[hxv,hyv];exact hrun)]
    refine hn _ _ g ?_ w1 w2 (λid hu _=>hd id hu);rw[Nat.min_comm];exact LU _ _
theorem Cs(hT:J5 P T){t t1:TypeId}{x y:Operand}(ho:o.op = .call { callee:=.builtin .copy,args:=#[x,y],argTypes:=#[t,t1] }):Rule P o vals mm c K (VA T vals mm K t):=by
 unfold VA;split
 ·rename_i e _ _ _ _ _ ht;split
  ·exact ah
  ·rename_i te hte;split
   ·rename_i id dy;split
    ·rename_i tt l hrow;refine au (λhsz=>?_) (λ_=>ah);split
     ·rename_i ys hys;intro r' hr';refine⟨_,hr',?_⟩;intro own g w a m u hle hm hd hall hfr hrep;rw[ho]at hrep;simp only[Op.operands,Call.operands,K7,LG,QdM,SQ,O7]at hrep;obtain⟨h1,h2⟩:=KM hrep;refine xb hT hm hd ht rfl hte hsz ho (hle _ _ hrow) (uQ hm hle hys h2) ?_;rcases a_ (aV h1)with⟨hi,p,hv⟩ | ⟨b,cap,n,hi,h3,h4,hv⟩
      ·rcases hm.ok id _ (hle _ _ hrow)with⟨_,rfl⟩ | ⟨_,_,_,_,k1,_⟩
       ·exact .inl ⟨.inr hi,rfl,rfl,p,hv⟩
       ·rw[hi]at k1;cases k1
      ·obtain⟨rfl,_,_⟩:=bX hm (hle _ _ hrow) hi
       exact .inr ⟨b,0,cap,cap,hi,hv,by omega,.inr (by simp)⟩
     ·exact ah
    ·exact ah
   ·rename_i id sz off n dy;split
    ·rename_i tt l hrow;refine au (λhsz=>?_) (λ_=>ah);simp only[KV,decide_eq_true_eq,beq_iff_eq]at hsz;obtain⟨hsz,rfl⟩:=hsz;split
     ·rename_i ys hys;intro r' hr';refine⟨_,hr',?_⟩;intro own g w a m u hle hm hd hall hfr hrep;rw[ho]at hrep;simp only[Op.operands,Call.operands,K7,LG,QdM,SQ,O7]at hrep;obtain⟨h1,h2⟩:=KM hrep;refine xb hT hm hd ht rfl hte hsz ho (hle _ _ hrow) (uQ hm hle hys h2) ?_;rcases lg (aV h1)with⟨hi,rfl,rfl,p,hv⟩ | ⟨b,cap,len,q,hi,h3,h4,h5,h6,hv⟩
      ·exact .inl ⟨.inr hi,rfl,rfl,p,hv⟩
      ·obtain⟨rfl,_,_⟩:=bX hm (hle _ _ hrow) hi;refine .inr ⟨b,q,_,cap,hi,hv,h3,?_⟩;rcases h5 with⟨h5,_⟩ | h5
       ·left;omega
       ·right;rw[h5,hsz]
     ·exact ah
    ·exact ah
   ·exact ah
 ·exact ah
end
set_option linter.unusedVariables false
set_option linter.unusedSimpArgs false
abbrev RU(x:Nat×Nat×Nat):Nat×Nat×Nat×NS:=(x.1,x.2.1,x.2.2,[])
def I5:List Pl→List Nat
 | []=>[]
 | some (b,c)::l=>b::(Kr c.2.2++I5 l)
 | none::l=>I5 l
section
variable{F:Fam}{P:Program}
def Ke(w:World)(I7:Nat→Prop)(ow:List Nat):Nat→List (ND F)→List Value→List Pl→Prop
 | _,[],[],Jg=>Jg = []
 | k,d::ds,v::vs,Jg=>
  if Jw k ow then match d with
   | .sl t l=>∃pl rest,Jg=pl::rest∧LX w I7 t l pl∧Pp t pl v∧Ke w I7 ow (k+1) ds vs rest
   | _=>False
  else if Jw (k+1000) ow then match d with
   | .sl t l=>∃pl rest,Jg=pl::rest∧Nc w I7 t l pl∧Ll pl v∧Ke w I7 ow (k+1) ds vs rest
   | _=>False
  else Ju w I7 d v∧Ke w I7 ow (k+1) ds vs Jg
 | _,_,_,_=>False
def KG(w:World)(I7:Nat→Prop)(t:Ty)(ow:List Nat)(x:ET F t)(v:Value)(Jg:List Pl):Prop:=
 if t.K9 then∃vs,v = .agg ⟨vs⟩∧Ke w I7 ow 0 (Jj F t x) vs Jg else Ke w I7 ow 0 (Jj F t x) [v] Jg
def Pq(w:World)(I7:Nat→Prop)(t:Ty)(ow:List Nat)(x:ET F t)(b:Nat)(Jg:List Pl):Prop:=
 ∃arr e,w.heap[b]? = some (.cells ⟨arr⟩ e (0,0))∧Ke w I7 ow 0 (Jj F t x) arr Jg
def Vq:Bool→Pl→Value→Prop
 | false,pl,v=>Ll pl v
 | true,pl,v=>∃b c,pl=some (b,c)∧v = .pointer (some ⟨b,0,none⟩)
def UF(t:Ty)(arr:Bool)(pl:Pl)(v:Value):Prop:=if t.KX=true then∃b,pl=some (b,0,0,[])∧v = .map (some b)else Vq arr pl v
def PkV(w:World)(I7:Nat→Prop)(k:Nat)(ds:List (ND F))(v:Value):Prop:=
 ∃(b1 b2:Nat)(y:Value),v = .pointer (some ⟨b1,0,none⟩)∧I7 b1∧I7 b2∧w.cell? ⟨b1,0,none⟩=some (.pointer (some ⟨b2,0,none⟩))∧w.cell? ⟨b2,k,none⟩=some y∧Md w I7 (ds,false) y
theorem PkV.lift{w w':World}{I7 Jo:Nat→Prop}(hw:∀b,I7 b→Jo b∧w'.heap[b]? = w.heap[b]?){k:Nat}{ds:List (ND F)}{v:Value}(h:PkV w I7 k ds v):PkV w' Jo k ds v:=by
 obtain⟨b1,b2,y,rfl,h1,h2,h3,h4,h5⟩:=h
 exact⟨b1,b2,y,rfl,(hw _ h1).1,(hw _ h2).1,by rw[KS (hw _ h1).2];exact h3,by rw[KS (hw _ h2).2];exact h4,h5.mono (λb hb=>(hw b hb).1) (λb hb=>(hw b hb).2)⟩
def Held(P:Program)(w:World)(I7:Nat→Prop):(k:Kd)→k.El F→Value→List Pl→List Pl→Prop
 | .v t ow,x,v,Jg,Jv=>KG w I7 t ow x v Jg∧Jv = []
 | .box t ow,x,v,Jg,Jv=>∃(bx:Nat×Nat×Nat)(rest:List Pl),Jv = [some (RU bx)]∧Jg=some (RU bx)::rest∧v = .pointer (some ⟨bx.1,0,none⟩)∧Pq w I7 t ow x bx.1 rest
 | .rp t,x,v,Jg,Jv=>Jg = []∧Jv = []∧Ka (F:=F) ⟨λ_=>none,I7,λ_=>False⟩ w (.pt (Jj F t x) 0) v
 | .fn ks r,φ,v,Jg,Jv=>Jg = []∧Jv = []∧PZ P F w I7 ks r φ v
 | .row t arr,x,v,Jg,Jv=>∃pl,Jv = [pl]∧Jg = [pl]∧LX w I7 t x pl∧UF t arr pl v
 | .O1 t,x,v,Jg,Jv=>Jg = []∧Jv = []∧Ka (F:=F) ⟨λ_=>none,I7,λ_=>False⟩ w (.P5 (Jj F t x)) v
 | .pk k t,x,v,Jg,Jv=>Jg = []∧Jv = []∧PkV w I7 k (Jj F t x) v
 | .ln t,x,v,Jg,Jv=>Jg = []∧Jv = []∧∃I:Nat→Prop,(∀b,I b→b<w.heap.size)∧KG w I t [] x v []
 | .nb t ow,x,v,Jg,Jv=>∃(bx:Nat×Nat×Nat)(rest:List Pl),Jv = []∧Jg=some (RU bx)::rest∧v = .pointer (some ⟨bx.1,0,none⟩)∧Pq w I7 t ow x bx.1 rest
 | .cl _ _,_,_,_,_=>False
def bR(P:Program)(w:World)(I7:Nat→Prop):(ks:List Kd)→HL F ks→List Value→List Pl→List Pl→Prop
 | [],_,vs,Jg,Jv=>vs = []∧Jg = []∧Jv = []
 | .cl f n::ks,a,vs,Jg,Jv=>∃us vs',vs = .func (.func f) ⟨[]⟩ ⟨us⟩::vs'∧us.length=n∧bR P w I7 ks a.2 (us++vs') Jg Jv
 | k::ks,a,vs,Jg,Jv=>∃v vs' p1 p2 b1 b2,vs=v::vs'∧Jg=p1++p2∧Jv=b1++b2∧Held P w I7 k a.1 v p1 b1∧bR P w I7 ks a.2 vs' p2 b2
theorem lX{w:World}{I7:Nat→Prop}{k:Kd}{ks:List Kd}{a:HL F (k::ks)}{vs:List Value}{Jg Jv:List Pl}(hk:k.PS=false)(h:bR P w I7 (k::ks) a vs Jg Jv) :
  ∃v vs' p1 p2 b1 b2,vs=v::vs'∧Jg=p1++p2∧Jv=b1++b2∧Held P w I7 k a.1 v p1 b1∧bR P w I7 ks a.2 vs' p2 b2:=by
 cases k with
 | cl f n=>cases hk
 | _=>exact h
theorem r8{w:World}{I7:Nat→Prop}{k:Kd}{ks:List Kd}{a:HL F (k::ks)}{vs:List Value}{Jg Jv:List Pl}(hk:k.PS=false)
  (h:∃v vs' p1 p2 b1 b2,vs=v::vs'∧Jg=p1++p2∧Jv=b1++b2∧Held P w I7 k a.1 v p1 b1∧bR P w I7 ks a.2 vs' p2 b2):bR P w I7 (k::ks) a vs Jg Jv:=by
 cases k with
 | cl f n=>cases hk
 | _=>exact h
def bF(P:Program)(w:World)(I7:Nat→Prop):(ks:List Kd)→TL F ks→List Value→List Pl→List Pl→Prop
 | [],_,vs,Jv,Jg=>vs = []∧Jv = []∧Jg = []
 | [.box t ow],x,vs,Jv,Jg=>∃bx:Nat×Nat×Nat,vs = []∧Jv = [some (RU bx)]∧Pq w I7 t (oo ow) x bx.1 Jg
 | .box t ow::l::ks,a,vs,Jv,Jg=>∃(bx:Nat×Nat×Nat)(Nv:List Pl)(p1 p2:List Pl),Jv=some (RU bx)::Nv∧Jg=p1++p2∧Pq w I7 t (oo ow) a.1 bx.1 p1∧bF P w I7 (l::ks) a.2 vs Nv p2
 | [.row t _],x,vs,Jv,Jg=>∃pl,vs = []∧Jv = [pl]∧LX w I7 t x pl∧Jg = []
 | .row t _::l::ks,a,vs,Jv,Jg=>∃(pl:Pl)(Nv:List Pl),Jv=pl::Nv∧LX w I7 t a.1 pl∧bF P w I7 (l::ks) a.2 vs Nv Jg
 | [k],x,vs,Jv,Jg=>∃v,vs = [v]∧Jv = []∧Held P w I7 k x v Jg []
 | k::l::ks,a,vs,Jv,Jg=>∃v vs' p1 p2,vs=v::vs'∧Jg=p1++p2∧Held P w I7 k a.1 v p1 []∧bF P w I7 (l::ks) a.2 vs' Jv p2
structure Od(w:World)(I7:Nat→Prop)(bs:List Nat):Prop where
 nodup:bs.Nodup
 I7:∀b∈bs,¬ I7 b
 lt:∀b∈bs,b<w.heap.size
def PK:List Value→Value
 | [v]=>v
 | vs=>.tuple ⟨vs⟩
def outs(sp:Spec F):List Kd:=sp.rs++sp.ks.filter Kd.KT
def Lf(P:Program)(f:FuncId)(sp:Spec F):Prop:=
 bc P f∧∀(a:HL F sp.ks)(r:TL F (outs sp)),sp.D a=some r→∀(I7:Nat→Prop)(w:World)(vs:List Value)(Jg:List Pl) (Jv:List Pl),
  bR P w I7 sp.ks a vs Jg Jv→Od w I7 (I5 Jg)→(∀b,I7 b→b<w.heap.size)→
  Calls P f ⟨vs⟩ w λe w'=>∃(M0:List Value)(Jo:Nat→Prop)(Kg:List Pl),e = .returned (PK M0)∧
   w'.os=w.os∧w'.tape=w.tape∧w'.output=w.output∧w.drawn≤w'.drawn∧w.heap.size≤w'.heap.size∧(∀b,b<w.heap.size→b∉I5 Jg→w'.heap[b]? = w.heap[b]?)∧
   (∀b,I7 b→Jo b)∧(∀b,Jo b→I7 b∨b∈I5 Jg∨w.heap.size≤b)∧(∀b,Jo b→b<w'.heap.size)∧
   bF P w' Jo (outs sp) r M0 Jv Kg∧Od w' Jo (I5 Jv++I5 Kg)∧∀b∈I5 Jv++I5 Kg,b∈I5 Jg∨w.heap.size≤b
def Kc(g:G):Option Nat→Pl
 | some i=>(g.ids i).getD none
 | none=>none
theorem Ke.le{w:World}{I7 Jo:Nat→Prop}(hi:∀b,I7 b→Jo b){ow:List Nat}:∀{ds:List (ND F)} {k:Nat} {vs:List Value} {Jg:List Pl},Ke w I7 ow k ds vs Jg→Ke w Jo ow k ds vs Jg
 | [],k,vs,Jg,h=>by cases vs<;>simp_all [Ke]
 | d::ds,k,vs,Jg,h=>by
  cases vs with
  | nil=>simp[Ke]at h
  | cons v vs=>
   simp only[Ke]at h ⊢;split
   ·rename_i hk;rw[if_pos hk]at h;split at h
    ·obtain⟨pl,rest,h1,h2,h3,h4⟩:=h;exact⟨pl,rest,h1,h2.Mv hi (λ_ _=>rfl) (λ_ _ _=>rfl),h3,h4.le hi⟩
    ·exact h.elim
   ·rename_i hk;rw[if_neg hk]at h;split
    ·rename_i hk2;rw[if_pos hk2]at h;split at h
     ·obtain⟨pl,rest,h1,h2,h3,h4⟩:=h;exact⟨pl,rest,h1,h2.Mv hi (λ_ _=>rfl) (λ_ _ _ _ _=>rfl),h3,h4.le hi⟩
     ·exact h.elim
    ·rename_i hk2;rw[if_neg hk2]at h;exact⟨h.1.mono hi (λ_ _=>rfl),h.2.le hi⟩
section
variable{own:Ow}{g:G}{w:World}{m mm:Nat→Option (J8 F)}
theorem A8(hm:Jl own g w m){id:Nat}{t:Ty}{l:List (ET F t)}(h:m id=some (.row t l)):bD w g.I7 t l (Kc g (some id)):=by
 rcases hm.ok id _ h with⟨h1,h2⟩ | ⟨b,cap,cur,e,k1,k2,k3,k4,k5,k6⟩
 ·simp[Kc,h1,bD,h2]
 ·have:Kc g (some id)=some (b,cap,l.length,[]):=by simp[Kc,k1]
  rw[this];exact⟨rfl,k3,k4,cur,e,k2,k5,k6⟩
theorem qf(hm:Jl own g w m){id:Nat}{t:Ty}{l:List (ET F t)}(h:m id=some (.mp t l)):∃b,Kc g (some id)=some (b,0,0,[])∧g.ids id=some (some (b,0,0,[]))∧MapAt w g.I7 t l b:=by
 obtain⟨b,h1,h2⟩:=hm.ok id _ h
 exact⟨b,by simp[Kc,h1],h1,h2⟩
theorem pW{id:Nat}{v:Value}(h:Ka (F:=F) g w (.Og id) v):∃b c,g.ids id=some (some (b,c))∧v = .map (some b):=by
 cases h with | Og h=>exact⟨_,_,h,rfl⟩
theorem zX(hm:Jl own g w m)(hle:Na mm m){x:Kv F}{d:ND F}{o:Option Nat}(h:rv mm x=some (d,o)){d':ND F}(hd:Rs d d')(hnn:d'≠.nl){v:Value}(hv:Ka g w x v) :
  ∃t l,d' = .sl t l∧LX w g.I7 t l (Kc g o)∧Pp t (Kc g o) v:=by
 unfold rv at h;split at h
 ·rename_i id;split at h
  ·rename_i t l hrow
   cases ht:t.KX with
   | true=>rw[ht]at h;cases h
   | false=>
    rw[ht]at h;cases h
    cases hd with
    | refl=>
     refine⟨t,l,rfl,by rw[dF ht];exact A8 hm (hle _ _ hrow),?_⟩
     rw[go ht];rcases a_ hv with⟨hi,p,rfl⟩ | ⟨b,c,n,hi,h1,h2,rfl⟩
     ·simp[Kc,hi,Ll]
     ·simp[Kc,hi,Ll]
  ·cases h
 ·rename_i id;split at h
  ·rename_i t l hrow
   cases ht:t.KX with
   | false=>rw[ht]at h;cases h
   | true=>
    rw[ht]at h;cases h
    cases hd with
    | refl=>
     obtain⟨b,k1,k2,k3⟩:=qf hm (hle _ _ hrow);obtain⟨b',c',k4,rfl⟩:=pW hv;rw[k2]at k4;cases k4;refine⟨t,l,rfl,?_,?_⟩
     ·unfold LX;rw[if_pos ht];exact⟨b,k1,k3⟩
     ·unfold Pp;rw[if_pos ht];exact⟨b,k1,rfl⟩
  ·cases h
 ·cases h
  cases hd with
  | refl=>exact absurd rfl hnn
  | nl t ht=>
   obtain⟨p,rfl⟩:=mu (P:=default) (.c hv)
   exact⟨t,[],rfl,by rw[dF ht];rfl,by rw[go ht];exact⟨p,rfl⟩⟩
 ·cases h
theorem xL(hm:Jl own g w m)(hle:Na mm m){x:Kv F}{d:ND F}{o:Option Nat}(h:qj mm x=some (d,o)){d':ND F}(hd:Rs d d')(hnn:d'≠.nl){v:Value}(hv:Ka g w x v) :
  ∃t l,d' = .sl t l∧Nc w g.I7 t l (Kc g o)∧Ll (Kc g o) v:=by
 unfold qj at h;split at h
 ·rename_i id;have hv:=uc hm hle hv;simp only[Te]at hv;unfold vX at h;split at h
  ·rename_i t l hrow;cases h
   cases hd with
   | refl=>
    obtain⟨pl,k1,k2,k3⟩:=qE hm (hle _ _ hrow) hv
    have e:Kc g (some (Rt mm id))=pl:=by simp[Kc,k1]
    rw[e];exact⟨t,l,rfl,k2,k3⟩
  ·cases h
 ·cases h
  cases hd with
  | refl=>exact absurd rfl hnn
  | nl t _=>obtain⟨p,rfl⟩:=mu (P:=default) (.c hv);exact⟨t,[],rfl,rfl,p,rfl⟩
 ·cases h
theorem pH{ow:List Nat}{k:Nat}{x:Kv F}{r:List (Kv F)}{ds:List (ND F)}{os:List (Option Nat)}{fz:List Nat}(h:dJ mm ow k (x::r)=some (ds,os,fz)) :
  (Jw k ow=true∧∃d o ds' os',rv mm x=some (d,o)∧dJ mm ow (k+1) r=some (ds',os',fz)∧ds=d::ds'∧os=o::os')∨
  (Jw k ow=false∧Jw (k+1000) ow=true∧∃d o ds' os',qj mm x=some (d,o)∧dJ mm ow (k+1) r=some (ds',os',fz)∧ds=d::ds'∧os=o::os')∨
  (Jw k ow=false∧Jw (k+1000) ow=false∧∃d i ds' UR,NZ mm x=some (d,i)∧dJ mm ow (k+1) r=some (ds',os,UR)∧ds=d::ds'∧fz=i++UR):=by
 simp only[dJ]at h;split at h
 ·rename_i hk;split at h
  ·cases h
  ·rename_i d o hd;split at h
   ·cases h
   ·rename_i ds' os' UR hr;cases h;exact .inl ⟨hk,d,o,ds',os',hd,hr,rfl,rfl⟩
 ·rename_i hk;split at h
  ·rename_i hk2;split at h
   ·cases h
   ·rename_i d o hd;split at h
    ·cases h
    ·rename_i ds' os' UR hr;cases h
     exact .inr (.inl ⟨by simpa using hk,hk2,d,o,ds',os',hd,hr,rfl,rfl⟩)
  ·rename_i hk2;split at h
   ·cases h
   ·rename_i d i hd;split at h
    ·cases h
    ·rename_i ds' os' UR hr;cases h
     exact .inr (.inr ⟨by simpa using hk,by simpa using hk2,d,i,ds',UR,hd,hr,rfl,rfl⟩)
theorem mq{ow:List Nat}:∀{cs:List (Kv F)} {k:Nat} {ds:List (ND F)} {os:List (Option Nat)} {fz:List Nat},dJ mm ow k cs=some (ds,os,fz)→∀id∈fz,WE mm id
 | [],k,ds,os,fz,h=>by simp only[dJ,K3]at h;cases h;simp
 | x::r,k,ds,os,fz,h=>by
  rcases pH h with⟨_,d,o,ds',os',h1,h2,rfl,rfl⟩ | ⟨_,_,d,o,ds',os',h1,h2,rfl,rfl⟩ | ⟨_,_,d,i,ds',UR,h1,h2,rfl,rfl⟩
  ·exact mq h2
  ·exact mq h2
  ·intro id hid;rcases Mr.1 hid with hid | hid
   ·exact wQ h1 id hid
   ·exact mq h2 id hid
theorem mr{ow:List Nat}:∀{cs:List (Kv F)} {k:Nat} {ds:List (ND F)} {os:List (Option Nat)} {fz:List Nat},dJ mm ow k cs=some (ds,os,fz)→∀id,some id∈os→∃B,mm id=some B∧B.owned=true
 | [],k,ds,os,fz,h=>by simp only[dJ,K3]at h;cases h;simp
 | x::r,k,ds,os,fz,h=>by
  rcases pH h with⟨_,d,o,ds',os',h1,h2,rfl,rfl⟩ | ⟨_,_,d,o,ds',os',h1,h2,rfl,rfl⟩ | ⟨_,_,d,i,ds',UR,h1,h2,rfl,rfl⟩
  ·intro id hid;rcases Lr.1 hid with rfl | hid
   ·unfold rv at h1;split at h1
    ·split at h1
     ·rename_i t l hrow
      cases ht:t.KX with
      | true=>rw[ht]at h1;cases h1
      | false=>rw[ht]at h1;cases h1;exact⟨_,hrow,rfl⟩
     ·cases h1
    ·split at h1
     ·rename_i t l hrow
      cases ht:t.KX with
      | false=>rw[ht]at h1;cases h1
      | true=>rw[ht]at h1;cases h1;exact⟨_,hrow,rfl⟩
     ·cases h1
    ·cases h1
    ·cases h1
   ·exact mr h2 id hid
  ·intro id hid;rcases Lr.1 hid with rfl | hid
   ·unfold qj at h1;split at h1
    ·unfold vX at h1;split at h1
     ·rename_i hrow;cases h1;exact⟨_,hrow,rfl⟩
     ·cases h1
    ·cases h1
    ·cases h1
   ·exact mr h2 id hid
  ·exact mr h2
theorem gQ(hm:Jl own g w m)(hle:Na mm m){ow:List Nat}{Jo:Nat→Prop}(hi:∀b,g.I7 b→Jo b):∀{cs:List (Kv F)} {k:Nat} {ds ds':List (ND F)} {os:List (Option Nat)} {fz:List Nat},dJ mm ow k cs=some (ds,os,fz)→OT ds ds'→(∀d∈ds',d≠.nl)→
  (∀id∈fz,∀b,g.blk id b→Jo b)→∀{vs:List Value},vs.length=cs.length→(∀(k:Nat)(x:Kv F)(v:Value),cs[k]? = some x→vs[k]? = some v→Ka g w x v)→Ke w Jo ow k ds' vs (os.map (Kc g))
 | [],k,ds,ds',os,fz,h,hl,ho,hf,vs,hv,hr=>by simp only[dJ,K3]at h;cases h;have h1:ds' = []:=O9 hl.1.symm;have h2:vs = []:=O9 hv;subst h1 h2;rfl
 | x::r,k,ds,ds',os,fz,h,hl,ho,hf,vs,hv,hr=>by
  match vs,hv with
  | v::vs,hv=>
   have hx:=hr 0 x v rfl rfl;have hr':∀(k:Nat)(x:Kv F)(v:Value),r[k]? = some x→vs[k]? = some v→Ka g w x v:=λk x v a b=>hr (k+1) x v a b;rcases pH h with⟨hk,d,o,ds0,os',h1,h2,rfl,rfl⟩ | ⟨hk,hk2,d,o,ds0,os',h1,h2,rfl,rfl⟩ | ⟨hk,hk2,d,i,ds0,UR,h1,h2,rfl,rfl⟩
   ·match ds',hl with
    | d'::ds',hl=>
     have hd:Rs d d':=hl.2 0 d d' rfl rfl
     have hl':OT ds0 ds':=⟨by simpa using hl.1,λk a b h1 h2=>hl.2 (k+1) a b h1 h2⟩
     obtain⟨t,l,rfl,h3,h4⟩:=zX hm hle h1 hd (ho _ (by simp)) hx
     simp only[Ke,hk,if_true,K7]
     exact⟨_,_,rfl,h3.Mv hi (λ_ _=>rfl) (λ_ _ _=>rfl),h4,gQ hm hle hi h2 hl' (λd hd=>ho d (by simp[hd])) hf (by simpa using hv) hr'⟩
    | [],hl=>exact absurd hl.1 (by simp)
   ·match ds',hl with
    | d'::ds',hl=>
     have hd:Rs d d':=hl.2 0 d d' rfl rfl
     have hl':OT ds0 ds':=⟨by simpa using hl.1,λk a b h1 h2=>hl.2 (k+1) a b h1 h2⟩
     obtain⟨t,l,rfl,h3,h4⟩:=xL hm hle h1 hd (ho _ (by simp)) hx
     simp only[Ke,hk,hk2,Ni,if_false,if_true,K7]
     exact⟨_,_,rfl,h3.Mv hi (λ_ _=>rfl) (λ_ _ _ _ _=>rfl),h4,gQ hm hle hi h2 hl' (λd hd=>ho d (by simp[hd])) hf (by simpa using hv) hr'⟩
    | [],hl=>exact absurd hl.1 (by simp)
   ·match ds',hl with
    | d'::ds',hl=>
     have hd:Rs d d':=hl.2 0 d d' rfl rfl
     have hl':OT ds0 ds':=⟨by simpa using hl.1,λk a b h1 h2=>hl.2 (k+1) a b h1 h2⟩
     simp only[Ke,hk,hk2,Ni,if_false]
     refine⟨?_,gQ hm hle hi h2 hl' (λd hd=>ho d (by simp[hd])) (λid hid=>hf id (by simp[hid])) (by simpa using hv) hr'⟩
     exact(ye hm hle h1 (g1:=⟨g.ids,Jo,g.len⟩) ⟨λ_ _ h=>h,hi,λ_ _=>rfl,λ_ h=>h,λ_ _=>rfl⟩ (λid hid=>hf id (by simp[hid])) hx).Un hd
    | [],hl=>exact absurd hl.1 (by simp)
end
end
set_option linter.unusedVariables false
set_option linter.unusedSimpArgs false
section
variable{F:Fam}{P:Program}{own:Ow}{g:G}{w:World}{m mm:Nat→Option (J8 F)}
structure Pd(g:G)(ids:List Nat)(im:Nat→Prop):Prop where
 I7:∀b,g.I7 b→im b
 fz:∀id∈ids,∀b,g.blk id b→im b
theorem Pd.sub{fz UR:List Nat}{I7:Nat→Prop}(h:Pd g fz I7)(hs:∀id∈UR,id∈fz):Pd g UR I7:=⟨h.I7,λid hid=>h.fz id (hs id hid)⟩
theorem qQ(hm:Jl own g w m)(hle:Na mm m){t:Ty}{ow:List Nat}{d:Dat F}{p:Pk (ET F t)}(h:Si mm t ow d=some p){I7:Nat→Prop}(hi:Pd g p.fz I7){v:Value}(hr:J4 P g w d v) :
  KG w I7 t ow p.x v (p.os.map (Kc g))∧p.bx = []∧(∀id∈p.fz,WE mm id)∧(∀id,some id∈p.os→∃B,mm id=some B∧B.owned=true):=by
 unfold Si at h;split at h
 ·cases h
 ·rename_i cs hcs;split at h
  ·cases h
  ·rename_i ds os fz hds;split at h
   ·cases h
   ·rename_i x hx;cases h;refine⟨?_,rfl,mq hds,λid hid=>?_⟩
    ·have Pe:=bK F hx;have hnn:=qr hx;unfold xP at hcs;split at hcs
     ·rename_i y;split at hcs
      ·cases hcs
      ·rename_i hst;cases hcs;unfold KG;rw[if_neg hst];refine gQ hm hle hi.I7 hds Pe hnn hi.fz rfl ?_;intro k c u h1 h2
       cases k with
       | zero=>simp only[M9,K3]at h1 h2;subst h1 h2;exact aV hr
       | succ k=>simp at h1
     ·rename_i cs';split at hcs
      ·rename_i hst;cases hcs;unfold KG;rw[if_pos hst];obtain⟨vs,rfl,hl,hrr⟩:=kZ hr;exact⟨vs,rfl,gQ hm hle hi.I7 hds Pe hnn hi.fz hl hrr⟩
      ·cases hcs
     ·cases hcs
    ·exact mr hds id hid
theorem kM(hm:Jl own g w m)(hle:Na mm m){t:Ty}{ow:List Nat}{d:Dat F}{p:Pk (ET F t)}(h:jR mm t ow d=some p){I7:Nat→Prop}(hi:Pd g p.fz I7){v:Value}(hr:J4 P g w d v) :
  ∃(id:Nat)(bx:Nat×Nat×Nat)(os:List (Option Nat)),p.os=some id::os∧p.bx = [id]∧d = .c (.ptr id 0)∧g.ids id=some (some (RU bx))∧v = .pointer (some ⟨bx.1,0,none⟩)∧Pq w I7 t ow p.x bx.1 (os.map (Kc g))∧
   (∀id∈p.fz,WE mm id)∧(∀id,some id∈p.os→∃B,mm id=some B∧B.owned=true):=by
 unfold jR at h;split at h
 ·rename_i id;split at h
  ·rename_i cs MF;split at h
   ·cases h
   ·rename_i ds os fz hds;split at h
    ·cases h
    ·rename_i x hx;cases h;obtain⟨b,cn,hid,rfl⟩:=bo hr;obtain⟨b',RY,arr,e,k1,k2,k3,k4⟩:=hm.ok id _ (hle _ _ MF);rw[k1]at hid;cases hid;refine⟨id,(b,RY),os,rfl,rfl,rfl,k1,rfl,⟨arr,e,k2,gQ hm hle hi.I7 hds (bK F hx) (qr hx) hi.fz k3 k4⟩,mq hds,λid' Ld=>?_⟩;rcases Lr.1 Ld with h1 | h1
     ·cases h1;exact⟨_,MF,rfl⟩
     ·exact mr hds id' h1
  ·cases h
 ·cases h
theorem fH{t:Ty}{l:List (ET F t)}:(OE t l).owned=true:=by
 unfold OE;cases t.KX<;>rfl
theorem tL(hm:Jl own g w m)(hle:Na mm m){t:Ty}{id:Nat}{p:Pk (List (ET F t))}(h:pP mm t id=some p) :
  p.os = [some id]∧p.bx = [id]∧p.fz = []∧LX w g.I7 t p.x (Kc g (some id))∧∃l:List (ET F t),mm id=some (OE t l):=by
 unfold pP at h;split at h
 ·rename_i t' l hrow;split at h
  ·rename_i e;subst e
   cases ht:t'.KX with
   | true=>rw[ht]at h;cases h
   | false=>
    rw[ht]at h;cases h
    exact⟨rfl,rfl,rfl,by rw[dF ht];exact A8 hm (hle _ _ hrow),l,by unfold OE;rw[ht];exact hrow⟩
  ·cases h
 ·rename_i t' l hrow;split at h
  ·rename_i e;subst e
   cases ht:t'.KX with
   | false=>rw[ht]at h;cases h
   | true=>
    rw[ht]at h;cases h;obtain⟨b,k1,k2,k3⟩:=qf hm (hle _ _ hrow)
    exact⟨rfl,rfl,rfl,by unfold LX;rw[if_pos ht];exact⟨b,k1,k3⟩,l,by unfold OE;rw[ht];exact hrow⟩
  ·cases h
 ·cases h
theorem LX.le{I7 Jo:Nat→Prop}(hi:∀b,I7 b→Jo b){t:Ty}{l:List (ET F t)}{pl:Pl}(h:LX w I7 t l pl):LX w Jo t l pl:=h.Mv hi (λ_ _=>rfl) (λ_ _ _=>rfl)
theorem bD.le{I7 Jo:Nat→Prop}(hi:∀b,I7 b→Jo b){t:Ty}{l:List (ET F t)}{pl:Pl}(h:bD w I7 t l pl):bD w Jo t l pl:=h.Mv hi (λ_ _=>rfl) (λ_ _ _=>rfl)
theorem rB{t:Ty}{arr:Bool}{d:Dat F}{id:Nat}(h:u9 t arr d=some id):d=MC t arr id:=by
 unfold u9 at h;split at h
 ·cases ht:t.KX with
  | true=>rw[ht]at h;cases h
  | false=>
   rw[ht]at h;simp only[cond_false]at h;split at h
   ·rename_i ha;cases h;subst ha;unfold MC;rw[ht];rfl
   ·cases h
 ·cases ht:t.KX with
  | true=>rw[ht]at h;cases h
  | false=>
   rw[ht]at h;simp only[cond_false]at h;split at h
   ·cases h
   ·rename_i ha;cases h;unfold MC;rw[ht];simp[ha]
 ·cases ht:t.KX with
  | false=>rw[ht]at h;cases h
  | true=>rw[ht]at h;cases h;unfold MC;rw[ht];rfl
 ·cases h
theorem wH{t:Ty}{arr:Bool}{id:Nat}{v:Value}(hr:J4 (F:=F) P g w (MC t arr id) v):(∃pl,g.ids id=some pl)∧(t.KX=false→Vq arr (Kc g (some id)) v)∧(t.KX=true→∃b c,g.ids id=some (some (b,c))∧v = .map (some b)):=by
 unfold MC at hr
 cases ht:t.KX with
 | true=>
  rw[ht]at hr;obtain⟨b,c,hi,rfl⟩:=pW (aV hr)
  exact⟨⟨_,hi⟩,λe=>(by cases e),λ_=>⟨b,c,hi,rfl⟩⟩
 | false=>
  rw[ht]at hr
  cases arr with
  | true=>
   obtain⟨b,c,hi,rfl⟩:=bo hr
   exact⟨⟨_,hi⟩,λ_=>⟨b,c,by simp[Kc,hi],rfl⟩,λe=>(by cases e)⟩
  | false=>
   rcases a_ (aV hr)with⟨hi,p,rfl⟩ | ⟨b,c,n,hi,h1,h2,rfl⟩
   ·exact⟨⟨_,hi⟩,λ_=>by simp[Vq,Kc,hi,Ll],λe=>(by cases e)⟩
   ·exact⟨⟨_,hi⟩,λ_=>by simp[Vq,Kc,hi,Ll],λe=>(by cases e)⟩
theorem rz(hm:Jl own g w m)(hle:Na mm m){t:Ty}{arr:Bool}{d:Dat F}{p:Pk (List (ET F t))}(h:wd mm t arr d=some p){I7:Nat→Prop}(hi:∀b,g.I7 b→I7 b){v:Value}(hr:J4 P g w d v) :
  ∃id pl,p.os = [some id]∧p.bx = [id]∧p.fz = []∧d=MC t arr id∧g.ids id=some pl∧LX w I7 t p.x pl∧UF t arr pl v∧∃l:List (ET F t),mm id=some (OE t l):=by
 unfold wd at h;split at h
 ·rename_i id hn;have hd:=rB hn;subst hd;obtain⟨h1,h2,h3,h4,h5⟩:=tL hm hle h;obtain⟨⟨pl,k1⟩,k2,k3⟩:=wH hr
  have e:Kc g (some id)=pl:=by simp[Kc,k1]
  rw[e]at h4 k2;refine⟨id,pl,h1,h2,h3,rfl,k1,h4.le hi,?_,h5⟩;unfold UF
  cases ht:t.KX with
  | true=>rw[if_pos rfl];obtain⟨b,c,k4,rfl⟩:=k3 ht;unfold LX at h4;rw[if_pos ht]at h4;obtain⟨b',k5,_⟩:=h4;rw[k1,k5]at k4;cases k4;exact⟨_,k5,rfl⟩
  | false=>rw[if_neg (by simp)];exact k2 ht
 ·cases h
theorem xQ{I7:Nat→Prop}{cs ds:List (ND F)}(hl:OT cs ds){b o:Nat}(hb:I7 b)(h:∀k d,cs[k]? = some d→∃x,w.cell? ⟨b,o+k,none⟩=some x∧Ju w I7 d x) :
  Ka (F:=F) ⟨λ_=>none,I7,λ_=>False⟩ w (.pt ds 0) (.pointer (some ⟨b,o,none⟩)):=by
 have key:∀k d,ds[k]? = some d→∃x,w.cell? ⟨b,o+k,none⟩=some x∧Ju w I7 d x:=by
  intro k d hk
  have hlt:k<cs.length:=by rw[hl.1];exact(I0.1 hk).1
  obtain⟨x,h1,h2⟩:=h k _ (IZ hlt);exact⟨x,h1,h2.Un (hl.2 k _ d (IZ hlt) hk)⟩
 have:=Ka.pt (F:=F) (g:=⟨λ_=>none,I7,λ_=>False⟩) (w:=w) ds 0 b o (λk=>(w.cell? ⟨b,o+k,none⟩).getD undef) hb
  (λk d hk=>by obtain⟨x,h1,h2⟩:=key k d hk;rw[h1];rfl) (λk d hk=>by obtain⟨x,h1,h2⟩:=key k d hk;rw[h1];exact h2)
 exact this
theorem tI(hm:Jl own g w m)(hle:Na mm m){t:Ty}{d:Dat F}{p:Pk (ET F t)}(h:vw mm t d=some p){I7:Nat→Prop}(hi:Pd g p.fz I7){v:Value}(hr:J4 P g w d v) :
  Ka (F:=F) ⟨λ_=>none,I7,λ_=>False⟩ w (.pt (Jj F t p.x) 0) v∧p.os = []∧p.bx = []∧NP mm p.fz:=by
 unfold vw at h;split at h
 ·split at h
  ·rename_i cs x hx;cases h;obtain⟨b,o,f,hb,rfl,hc,hrr⟩:=qa hr
   exact⟨xQ (bK F hx) (hi.I7 b hb) (λk d hk=>⟨_,hc k d hk,(hrr k d hk).mono hi.I7 (λ_ _=>rfl)⟩),rfl,rfl,λid hid=>by simp at hid⟩
  ·cases h
 ·rename_i id;split at h
  ·rename_i cs MF;split at h
   ·cases h
   ·rename_i ds fz hds;split at h
    ·cases h
    ·rename_i x hx;cases h;obtain⟨b,cn,hid,rfl⟩:=bo hr;obtain⟨b',RY,arr,e,k1,k2,k3,k4⟩:=hm.ok id _ (hle _ _ MF);rw[k1]at hid;cases hid
     refine⟨xQ (bK F hx) (hi.fz id (by simp) b (G.Kt k1)) ?_,rfl,rfl,?_⟩
     ·intro k d hk
      have hlt:k<arr.length:=by rw[k3,← d8 hds];exact(I0.1 hk).1
      refine⟨arr[k],by simp[World.cell?,k2,hlt],?_⟩
      exact fA hm hle hds (g1:=⟨g.ids,I7,g.len⟩) ⟨λ_ _ h=>h,hi.I7,λ_ _=>rfl,λ_ h=>h,λ_ _=>rfl⟩ (λid' Ld b' hb'=>hi.fz id' (by simp[Ld]) b' hb') arr k4 k d _ hk (IZ hlt)
     ·intro id' Ld;rcases Lr.1 Ld with rfl | Ld
      ·exact .inr (.inl ⟨cs,ds,fz,MF,hds,λx hx=>by simp[hx]⟩)
      ·exact .inl (kh hds id' Ld)
  ·rename_i cs MF;split at h
   ·rename_i x hx;cases h;obtain⟨b,cn,hid,rfl⟩:=bo hr;obtain⟨b',RY,k1,k2,k3⟩:=hm.ok id _ (hle _ _ MF);rw[k1]at hid;cases hid
    refine⟨xQ (bK F hx) (hi.I7 b k2) ?_,rfl,rfl,λid hid=>by simp at hid⟩
    intro k d hk;obtain⟨y,q1,q2⟩:=k3 k d hk
    exact⟨y,by rw[L_];exact q1,q2.mono hi.I7 (λ_ _=>rfl)⟩
   ·cases h
  ·cases h
 ·cases h
theorem AC{I7:Nat→Prop}{cs ds:List (ND F)}(hl:OT cs ds){b o b2 o2:Nat}(hb:I7 b)(hv:w.cell? ⟨b,o,none⟩=some (.pointer (some ⟨b2,o2,none⟩)))(hb2:I7 b2)(h:∀k d,cs[k]? = some d→∃x,w.cell? ⟨b2,o2+k,none⟩=some x∧Ju w I7 d x) :
  Ka (F:=F) ⟨λ_=>none,I7,λ_=>False⟩ w (.P5 ds) (.pointer (some ⟨b,o,none⟩)):=by
 have key:∀k d,ds[k]? = some d→∃x,w.cell? ⟨b2,o2+k,none⟩=some x∧Ju w I7 d x:=by
  intro k d hk
  have hlt:k<cs.length:=by rw[hl.1];exact(I0.1 hk).1
  obtain⟨x,h1,h2⟩:=h k _ (IZ hlt);exact⟨x,h1,h2.Un (hl.2 k _ d (IZ hlt) hk)⟩
 exact Ka.P5 (F:=F) (g:=⟨λ_=>none,I7,λ_=>False⟩) (w:=w) ds b o b2 o2 (λk=>(w.cell? ⟨b2,o2+k,none⟩).getD undef) hb hv hb2
  (λk d hk=>by obtain⟨x,h1,h2⟩:=key k d hk;rw[h1];rfl) (λk d hk=>by obtain⟨x,h1,h2⟩:=key k d hk;rw[h1];exact h2)
theorem tZ(hm:Jl own g w m)(hle:Na mm m){k:Nat}{t:Ty}{d:Dat F}{p:Pk (ET F t)}(h:va mm k t d=some p){I7:Nat→Prop}(hi:Pd g p.fz I7){v:Value}(hr:J4 P g w d v) :
  PkV w I7 k (Jj F t p.x) v∧p.os = []∧p.bx = []∧NP mm p.fz:=by
 unfold va at h;split at h
 ·rename_i id;split at h
  ·rename_i id2 OL;split at h
   ·rename_i cs MF;split at h
    ·rename_i d0 hd0;split at h
     ·rename_i x hx;cases h;obtain⟨b,cn,hid,rfl⟩:=bo hr;obtain⟨b',RY,Vp,e1,k1,k2,k3,k4⟩:=hm.ok id _ (hle _ _ OL);rw[k1]at hid;cases hid
      match Vp,k3,k2,k4 with
      | [v1],k3,k2,k4=>
       have hv1:=k4 0 (.ptr id2 0) v1 rfl rfl;obtain⟨b2,cn2,Rz,rfl⟩:=bo (P:=P) (.c hv1);obtain⟨b3,cn3,arr,e,q1,q2,q3,q4⟩:=hm.ok id2 _ (hle _ _ MF);rw[q1]at Rz;cases Rz
       have hlt:k<arr.length:=by rw[q3];exact(I0.1 hd0).1
       have hy:=b7 (q4 k (.im d0) _ hd0 (IZ hlt));have hl:=bK F hx
       refine⟨⟨_,_,arr[k],rfl,hi.fz id (by simp) _ (G.Kt k1),hi.fz id2 (by simp) _ (G.Kt q1),by simp[World.cell?,k2],by simp[World.cell?,q2,hlt],?_⟩,rfl,rfl,?_⟩
       ·have hy2:Ju w I7 d0 arr[k]:=hy.mono hi.I7 (λ_ _=>rfl)
        match he:Jj F t x,hl with
        | [d1],hl=>exact .one (hy2.Un (hl.2 0 d0 d1 rfl rfl))
        | [],hl=>simp[OT]at hl
        | _::_::_,hl=>simp[OT]at hl
       ·intro id' Ld;simp only[Lr,ZB,or_false]at Ld;rcases Ld with rfl | rfl
        ·exact .inr (.inr ⟨_,OL,rfl⟩)
        ·exact .inr (.inr ⟨_,MF,rfl⟩)
      | [],k3,_,_=>simp at k3
      | _::_::_,k3,_,_=>simp at k3
     ·cases h
    ·cases h
   ·cases h
  ·cases h
 ·cases h
theorem ru(hm:Jl own g w m)(hle:Na mm m){t:Ty}{d:Dat F}{p:Pk (ET F t)}(h:sS mm t d=some p){I7:Nat→Prop}(hi:Pd g p.fz I7){v:Value}(hr:J4 P g w d v) :
  Ka (F:=F) ⟨λ_=>none,I7,λ_=>False⟩ w (.P5 (Jj F t p.x)) v∧p.os = []∧p.bx = []∧NP mm p.fz:=by
 unfold sS at h;split at h
 ·rename_i id;split at h
  ·rename_i id2 OL;split at h
   ·rename_i cs MF;split at h
    ·cases h
    ·rename_i ds fz hds;split at h
     ·cases h
     ·rename_i x hx;cases h;obtain⟨b,cn,hid,rfl⟩:=bo hr;obtain⟨b',RY,Vp,e1,k1,k2,k3,k4⟩:=hm.ok id _ (hle _ _ OL);rw[k1]at hid;cases hid
      match Vp,k3,k2,k4 with
      | [v1],k3,k2,k4=>
       have hv1:=k4 0 (.ptr id2 0) v1 rfl rfl;obtain⟨b2,cn2,Rz,rfl⟩:=bo (P:=P) (.c hv1);obtain⟨b3,cn3,arr,e,q1,q2,q3,q4⟩:=hm.ok id2 _ (hle _ _ MF);rw[q1]at Rz;cases Rz
       refine⟨AC (o:=0) (o2:=0) (bK F hx) (hi.fz id (by simp) _ (G.Kt k1)) (by simp[World.cell?,k2]) (hi.fz id2 (by simp) _ (G.Kt q1)) ?_,rfl,rfl,?_⟩
       ·intro k d hk
        have hlt:k<arr.length:=by rw[q3,← d8 hds];exact(I0.1 hk).1
        refine⟨arr[k],by simp[World.cell?,q2,hlt],?_⟩
        exact fA hm hle hds (g1:=⟨g.ids,I7,g.len⟩) ⟨λ_ _ h=>h,hi.I7,λ_ _=>rfl,λ_ h=>h,λ_ _=>rfl⟩ (λid' Ld b' hb'=>hi.fz id' (by simp[Ld]) b' hb') arr q4 k d _ hk (IZ hlt)
       ·intro id' Ld;rcases Lr.1 Ld with rfl | Ld
        ·exact .inr (.inr ⟨_,OL,rfl⟩)
        ·rcases Lr.1 Ld with rfl | Ld
         ·exact .inr (.inl ⟨cs,ds,fz,MF,hds,λx hx=>by simp[hx]⟩)
         ·exact .inl (kh hds id' Ld)
      | [],k3,_,_=>simp at k3
      | _::_::_,k3,_,_=>simp at k3
   ·cases h
  ·rename_i cs OL;split at h
   ·cases h
   ·rename_i x hx;cases h;obtain⟨b,cn,hid,rfl⟩:=bo hr;obtain⟨b',RY,Vp,e1,k1,k2,k3,k4⟩:=hm.ok id _ (hle _ _ OL);rw[k1]at hid;cases hid
    match Vp,k3,k2,k4 with
    | [v1],k3,k2,k4=>
     have hv1:=k4 0 (.pt cs 0) v1 rfl rfl;obtain⟨b2,o2,f,hb2,rfl,hc,hrr⟩:=qa (P:=P) (.c hv1)
     refine⟨AC (o:=0) (bK F hx) (hi.fz id (by simp) _ (G.Kt k1)) (by simp[World.cell?,k2]) (hi.I7 b2 hb2) (λk d hk=>⟨_,hc k d hk,(hrr k d hk).mono hi.I7 (λ_ _=>rfl)⟩),rfl,rfl,?_⟩
     intro id' Ld;rw[I4]at Ld;subst Ld;exact .inr (.inr ⟨_,OL,rfl⟩)
    | [],k3,_,_=>simp at k3
    | _::_::_,k3,_,_=>simp at k3
  ·cases h
 ·cases h
theorem Ke.lift{w w':World}{I7 Jo:Nat→Prop}(hi:∀b,I7 b→Jo b∧w'.heap[b]? = w.heap[b]?):∀{ds:List (ND F)} {k:Nat} {vs:List Value},Ke w I7 [] k ds vs []→Ke w' Jo [] k ds vs []
 | [],k,vs,h=>by cases vs<;>simp_all [Ke]
 | d::ds,k,vs,h=>by
  cases vs with
  | nil=>simp[Ke]at h
  | cons v vs=>simp only[Ke,Jw,Ni,if_false]at h ⊢;exact⟨h.1.mono (λb hb=>(hi b hb).1) (λb hb=>(hi b hb).2),h.2.lift hi⟩
theorem KG.lift{w w':World}{I7 Jo:Nat→Prop}(hi:∀b,I7 b→Jo b∧w'.heap[b]? = w.heap[b]?){t:Ty}{x:ET F t}{v:Value}(h:KG w I7 t [] x v []):KG w' Jo t [] x v []:=by
 unfold KG at h ⊢;split
 ·rename_i hs;rw[if_pos hs]at h;obtain⟨vs,h1,h2⟩:=h;exact⟨vs,h1,h2.lift hi⟩
 ·rename_i hs;rw[if_neg hs]at h;exact h.lift hi
theorem Ke.LD{I7:Nat→Prop}:∀{ds:List (ND F)} {k:Nat} {vs:List Value} {Jg:List Pl},Ke w I7 [] k ds vs Jg→Jg = []
 | [],k,vs,Jg,h=>by cases vs<;>simp_all [Ke]
 | d::ds,k,vs,Jg,h=>by
  cases vs with
  | nil=>simp[Ke]at h
  | cons v vs=>simp only[Ke,Jw,Ni,if_false]at h;exact h.2.LD
theorem KG.LD{I7:Nat→Prop}{t:Ty}{x:ET F t}{v:Value}{Jg:List Pl}(h:KG w I7 t [] x v Jg):Jg = []:=by
 unfold KG at h;split at h
 ·obtain⟨vs,_,h2⟩:=h;exact h2.LD
 ·exact h.LD
theorem ub{I7:Nat→Prop}:∀{ds:List (ND F)} {k:Nat} {vs:List Value},vs.length=ds.length→(∀(k:Nat)(d:ND F)(x:Value),ds[k]? = some d→vs[k]? = some x→Ju w I7 d x)→Ke w I7 [] k ds vs []
 | [],k,vs,hl,_=>by have:vs = []:=O9 hl;subst this;rfl
 | d::ds,k,vs,hl,hr=>by
  match vs,hl with
  | v::vs,hl=>
   simp only[Ke,Jw,Ni,if_false]
   exact⟨hr 0 d v rfl rfl,ub (by simpa using hl) (λk d x a b=>hr (k+1) d x a b)⟩
theorem zk{I7:Nat→Prop}{t:Ty}{x:ET F t}{v:Value}(h:Md w I7 (Jj F t x,t.K9) v):KG w I7 t [] x v []:=by
 unfold KG
 cases hs:t.K9 with
 | true=>
  rw[if_pos rfl];rw[hs]at h;generalize hc:Jj F t x=cs at h ⊢
  cases h with
  | agg hl hr=>exact⟨_,rfl,ub hl hr⟩
 | false=>
  rw[if_neg (by simp)]
  rw[hs]at h;generalize hc:Jj F t x=cs at h ⊢
  cases h with
  | one h=>
   refine ub rfl ?_;intro k d y h1 h2
   cases k with
   | zero=>simp only[M9,K3]at h1 h2;subst h1 h2;exact h
   | succ k=>simp at h1
theorem ud{I7:Nat→Prop}:∀{ds:List (ND F)} {k:Nat} {vs:List Value},Ke w I7 [] k ds vs []→vs.length=ds.length∧(∀(k:Nat)(d:ND F)(x:Value),ds[k]? = some d→vs[k]? = some x→Ju w I7 d x)
 | [],k,vs,h=>by cases vs<;>simp_all [Ke]
 | d::ds,k,vs,h=>by
  cases vs with
  | nil=>simp[Ke]at h
  | cons v vs=>
   simp only[Ke,Jw,Ni,if_false]at h;obtain⟨h1,h2⟩:=ud h.2
   refine⟨by simp[h1],?_⟩
   intro j d' x a b
   cases j with
   | zero=>simp only[M9,K3]at a b;subst a b;exact h.1
   | succ j=>exact h2 j d' x a b
theorem nW{I7:Nat→Prop}{t:Ty}{x:ET F t}{v:Value}(h:KG w I7 t [] x v []):Md w I7 (Jj F t x,t.K9) v:=by
 unfold KG at h
 cases hs:t.K9 with
 | true=>rw[hs]at h;obtain⟨vs,rfl,h2⟩:=h;obtain⟨h3,h4⟩:=ud h2;exact .agg h3 h4
 | false=>
  rw[hs]at h;simp only[Ni,if_false]at h;obtain⟨h3,h4⟩:=ud h
  have hl:∃d,Jj F t x = [d]:=by
   cases hc:Jj F t x with
   | nil=>rw[hc]at h3;simp at h3
   | cons d r=>rw[hc]at h3;simp at h3;exact⟨d,by rw[h3]⟩
  obtain⟨d,hd⟩:=hl;rw[hd]
  exact .one (h4 0 d v (by rw[hd];rfl) rfl)
theorem oL{t:Ty}(hf:cB F t=true)(x:ET F t):∀d∈Jj F t x,d.flat=true:=by
 cases t with
 | int k=>simp[Jj,NV.flat]
 | bool=>simp[Jj,NV.flat]
 | str=>simp[Jj,NV.flat]
 | slice t=>simp[cB]at hf
 | st n=>
  simp only[Jj];simp only[cB]at hf
  have gen:∀(ts:List Ty)(a:Js F ts),(ts.all λt=>match t with | .slice _=>false | .st _=>false | _=>true)=true→∀d∈LV F ts a,d.flat=true:=by
   intro ts
   induction ts with
   | nil=>intro a _ d hd;simp[LV]at hd
   | cons t ts ih=>
    intro a h d hd;simp only[TB,KV]at h;rcases Lr.1 hd with rfl | hd
    ·cases t<;>first | rfl | simp at h
    ·exact ih a.2 h.2 d hd
  exact gen _ _ hf
theorem Md.flat{w w':World}{I7 Jo:Nat→Prop}{cs:List (ND F)}{b:Bool}(hf:∀d∈cs,d.flat=true){v:Value}(h:Md w I7 (cs,b) v):Md w' Jo (cs,b) v:=by
 cases h with
 | one h=>exact .one (h.flat (hf _ (by simp)))
 | agg hl h=>exact .agg hl (λk c x a b=>(h k c x a b).flat (hf c (Rq a)))
end
set_option linter.unusedVariables false
set_option linter.unusedSimpArgs false
section
variable{F:Fam}{P:Program}{own:Ow}{g:G}{w:World}{m mm:Nat→Option (J8 F)}
theorem vi(hm:Jl own g w m)(hle:Na mm m){k:Kd}{d:Dat F}{p:Pk (k.El F)}(h:Rf mm k d=some p){I7:Nat→Prop}(hi:Pd g p.fz I7){v:Value}(hr:J4 P g w d v) :
  (∀(w':World)(Jo:Nat→Prop),(∀b,I7 b→Jo b∧w'.heap[b]? = w.heap[b]?)→Held P w' Jo k p.x v [] [])∧NP mm p.fz:=by
 unfold Rf at h;split at h
 ·obtain⟨h1,h2,h3,_⟩:=qQ hm hle h hi hr;have h4:=h1.LD;rw[h4]at h1;exact⟨λw' Jo hw=>⟨h1.lift hw,rfl⟩,NP.MH h3⟩
 ·obtain⟨h1,h2,h3,h4⟩:=tI hm hle h hi hr;refine⟨λw' Jo hw=>⟨rfl,rfl,?_⟩,h4⟩;exact Ka.le (g:=⟨λ_=>none,I7,λ_=>False⟩) (g':=⟨λ_=>none,Jo,λ_=>False⟩) ⟨λ_ _ h=>h,λb hb=>(hw b hb).1,λb hb=>(hw b hb).2,λ_ h=>h,λ_ h=>h.elim⟩ h1
 ·obtain⟨h1,h2,h3,h4⟩:=ru hm hle h hi hr;refine⟨λw' Jo hw=>⟨rfl,rfl,?_⟩,h4⟩;exact Ka.le (g:=⟨λ_=>none,I7,λ_=>False⟩) (g':=⟨λ_=>none,Jo,λ_=>False⟩) ⟨λ_ _ h=>h,λb hb=>(hw b hb).1,λb hb=>(hw b hb).2,λ_ h=>h,λ_ h=>h.elim⟩ h1
 ·obtain⟨h1,h2,h3,h4⟩:=tZ hm hle h hi hr;exact⟨λw' Jo hw=>⟨rfl,rfl,h1.lift hw⟩,h4⟩
 ·cases h
theorem NP.append{l r:List Nat}(h:NP mm l)(k:NP mm r):NP mm (l++r):=by
 intro id hid;rcases Mr.1 hid with hid | hid
 ·rcases h id hid with h | ⟨cs,ds,fz,h1,h2,h3⟩ | h
  ·exact .inl h
  ·exact .inr (.inl ⟨cs,ds,fz,h1,h2,λx hx=>by simp[h3 x hx]⟩)
  ·exact .inr (.inr h)
 ·rcases k id hid with h | ⟨cs,ds,fz,h1,h2,h3⟩ | h
  ·exact .inl h
  ·exact .inr (.inl ⟨cs,ds,fz,h1,h2,λx hx=>by simp[h3 x hx]⟩)
  ·exact .inr (.inr h)
theorem em{vs:List Value}(h:Kq (F:=F) P g w [] vs):vs = []:=O9 h.1
theorem fj{d:Dat F}{ds:List (Dat F)}{vs:List Value}(h:Kq P g w (d::ds) vs):∃v vs',vs=v::vs'∧J4 P g w d v∧Kq P g w ds vs':=by
 match vs,h with
 | [],h=>exact absurd h.1 (by simp)
 | v::vs,h=>exact⟨v,vs,rfl,(aP.1 h).1,(aP.1 h).2⟩
theorem Ca{w:World}{I7:Nat→Prop}{d:List (ND F)×Bool}{ds:List (List (ND F)×Bool)}{vs:List Value}(h:Rk w I7 (d::ds) vs):∃v vs',vs=v::vs'∧Md w I7 d v∧Rk w I7 ds vs':=by
 match vs,h with
 | [],h=>exact absurd h.1 (by simp)
 | v::vs,h=>exact⟨v,vs,rfl,h.2 0 d v rfl rfl,by simpa using h.1,λk d x a b=>h.2 (k+1) d x a b⟩
theorem zg{mm:Nat→Option (J8 F)}{k:Kd}{d:Dat F}{p:Pk (k.El F)}(h:Rf mm k d=some p):k.PS=false:=by
 cases k with
 | cl f n=>simp[Rf]at h
 | _=>rfl
theorem ij(hm:Jl own g w m)(hle:Na mm m):∀{kk:List Kd}{fs:List (Dat F)} {ks:List Ty} {cs:List (Dat F)} {q:Pk (Js F ks→HL F kk)},Mk mm kk fs ks cs=some q→
  ∀{I7:Nat→Prop},Pd g q.fz I7→∀{vs us:List Value},Kq P g w fs vs→Kq P g w cs us→
  (∀(w':World)(Jo:Nat→Prop),(∀b,I7 b→Jo b∧w'.heap[b]? = w.heap[b]?)→∀(a:Js F ks)(vs':List Value),Rk w' Jo (MB F ks a) vs'→bR P w' Jo kk (q.x a) (vs++vs'++us) [] [])∧NP mm q.fz
 | [],fs,ks,cs,q,h,I7,hi,vs,us,hf,hc=>by
  cases fs with
  | cons d fs=>cases ks<;>cases cs<;>simp[Mk]at h
  | nil=>
   cases ks with
   | cons t ks=>cases cs<;>simp[Mk]at h
   | nil=>
    cases cs with
    | cons d cs=>simp[Mk]at h
    | nil=>
     simp only[Mk,K3]at h;subst h;have h1:=em hf;have h2:=em hc;subst h1 h2
     refine⟨λw' Jo hw a vs' ht=>?_,λid hid=>by simp at hid⟩
     have:vs' = []:=O9 ht.1;subst this;exact⟨rfl,rfl,rfl⟩
 | k::kk,d::fs,ks,cs,q,h,I7,hi,vs,us,hf,hc=>by
  simp only[Mk]at h;split at h
  ·cases h
  ·rename_i p hp;split at h
   ·cases h
   ·rename_i q' hq';cases h;obtain⟨v,UZ,rfl,hr,hf'⟩:=fj hf
    obtain⟨h1,h2⟩:=vi hm hle hp (hi.sub (λid hid=>by simp[hid])) hr
    obtain⟨h3,h4⟩:=ij hm hle hq' (hi.sub (λid hid=>by simp[hid])) hf' hc
    exact⟨λw' Jo hw a vs' ht=>r8 (zg hp) ⟨v,_,[],[],[],[],rfl,rfl,rfl,h1 w' Jo hw,h3 w' Jo hw a vs' ht⟩,h2.append h4⟩
 | k::kk,[],t::ks,cs,q,h,I7,hi,vs,us,hf,hc=>by
  have hk:∃t',k = .v t' []:=by
   cases k with
   | v t' ow=>cases ow with
    | nil=>exact⟨t',rfl⟩
    | cons=>simp[Mk]at h
   | box=>simp[Mk]at h
   | rp=>simp[Mk]at h
   | fn=>simp[Mk]at h
   | row=>simp[Mk]at h
   | O1=>simp[Mk]at h
   | pk=>simp[Mk]at h
   | ln=>simp[Mk]at h
   | nb=>simp[Mk]at h
   | cl=>simp[Mk]at h
  obtain⟨t',rfl⟩:=hk;simp only[Mk]at h;split at h
  ·rename_i e;subst e;split at h
   ·cases h
   ·rename_i q' hq';cases h;have h1:=em hf;subst h1
    obtain⟨h3,h4⟩:=ij (vs:=[]) hm hle hq' hi ⟨rfl,by simp⟩ hc
    refine⟨λw' Jo hw a vs' ht=>?_,h4⟩;obtain⟨v,UZ,rfl,hr,ht'⟩:=Ca ht;exact⟨v,_,[],[],[],[],rfl,rfl,rfl,⟨zk hr,rfl⟩,h3 w' Jo hw a.2 UZ ht'⟩
  ·cases h
 | k::kk,[],[],cs,q,h,I7,hi,vs,us,hf,hc=>by
  cases cs with
  | nil=>simp[Mk]at h
  | cons d cs=>
   simp only[Mk]at h;split at h
   ·cases h
   ·rename_i p hp;split at h
    ·cases h
    ·rename_i q' hq';cases h;have h1:=em hf;subst h1;obtain⟨v,us0,rfl,hr,hc'⟩:=fj hc
     obtain⟨h1,h2⟩:=vi hm hle hp (hi.sub (λid hid=>by simp[hid])) hr
     obtain⟨h3,h4⟩:=ij (vs:=[]) hm hle hq' (hi.sub (λid hid=>by simp[hid])) ⟨rfl,by simp⟩ hc'
     refine⟨λw' Jo hw a vs' ht=>?_,h2.append h4⟩;have h0:vs' = []:=O9 ht.1;subst h0;exact r8 (zg hp) ⟨v,us0,[],[],[],[],rfl,rfl,rfl,h1 w' Jo hw,h3 w' Jo hw a [] ht⟩
theorem xk{sp:Spec F}{r:Ty}{D:HL F sp.ks→Option (ET F r)}(h:cP sp r=some D){a:HL F sp.ks}{y:ET F r}(hd:D a=some y) :
  ∃r',sp.D a=some r'∧∀(w:World)(I7:Nat→Prop)(M0:List Value)(Jv:List Pl) (Jg:List Pl),bF P w I7 (outs sp) r' M0 Jv Jg→∃v,M0 = [v]∧Jv = []∧KG w I7 r [] y v Jg:=by
 obtain⟨ks,rs,D0⟩:=sp
 match rs,D0,D,h,hd with
 | [.v t []],D0,D,h,hd=>
  simp only[cP]at h;simp only[outs]
  have key:∀(bl:List Kd)(D0:HL F ks→Option (TL F ([.v t []]++bl))) (D:HL F ks→Option (ET F r)),wA ks t r bl D0=some D→D a=some y→∃r',D0 a=some r'∧∀(w:World)(I7:Nat→Prop)(M0:List Value)(Jv:List Pl) (Jg:List Pl),bF P w I7 ([.v t []]++bl) r' M0 Jv Jg→∃v,M0 = [v]∧Jv = []∧KG w I7 r [] y v Jg:=by
   intro bl
   cases bl with
   | nil=>
    intro D0 D h hd;simp only[wA]at h;split at h
    ·rename_i e;subst e;cases h;refine⟨y,hd,?_⟩;intro w I7 M0 Jv Jg hh;obtain⟨v,h1,h2,h3,_⟩:=hh;exact⟨v,h1,h2,h3⟩
    ·cases h
   | cons b bl=>intro D0 D h hd;cases h
  exact key _ D0 D h hd
 | [],D0,D,h,hd=>simp[cP]at h
 | .v t (_::_)::_,D0,D,h,hd=>simp[cP]at h
 | .box _ _::_,D0,D,h,hd=>simp[cP]at h
 | .rp _::_,D0,D,h,hd=>simp[cP]at h
 | .fn _ _::_,D0,D,h,hd=>simp[cP]at h
 | .row _ _::_,D0,D,h,hd=>simp[cP]at h
 | .O1 _::_,D0,D,h,hd=>simp[cP]at h
 | .pk _ _::_,D0,D,h,hd=>simp[cP]at h
 | .ln _::_,D0,D,h,hd=>simp[cP]at h
 | .nb _ _::_,D0,D,h,hd=>simp[cP]at h
 | .v t []::_::_,D0,D,h,hd=>simp[cP]at h
end
set_option linter.unusedVariables false
set_option linter.unusedSimpArgs false
section
variable{F:Fam}{P:Program}{own:Ow}{g:G}{w:World}{m mm:Nat→Option (J8 F)}{Γ : Ctx F}
def Kz(P:Program)(Γ : Ctx F):Prop:=∀f sp,look Γ f=some sp→Lf P f sp
theorem B4{f:FuncId}{sp:Spec F}(hf:Lf P f sp){ks:List Ty}{r:Ty}{D:HL F sp.ks→Option (ET F r)}(hD:cP sp r=some D)(hfl:cB F r=true){q:Js F ks→HL F sp.ks}{bs us:List Value}(hbs:bs = []∨ks.length=1){I7:Nat→Prop}
  (hq:∀(w':World)(Jo:Nat→Prop),(∀b,I7 b→Jo b∧w'.heap[b]? = w.heap[b]?)→∀(a:Js F ks)(vs':List Value),Rk w' Jo (MB F ks a) vs'→bR P w' Jo sp.ks (q a) (bs++vs'++us) [] []) :
  PZ P F w I7 ks r (λa=>D (q a)) (.func (.func f) ⟨bs⟩ ⟨us⟩):=by
 refine⟨f,bs,us,rfl,hbs,hf.1,?_⟩;intro w' Jo hw hlt a x vs' hφ ht;obtain⟨r',hr',hout⟩:=xk (P:=P) hD hφ
 refine(hf.2 (q a) r' hr' Jo w' (bs++vs'++us) [] [] (hq w' Jo hw a vs' ht) ⟨by simp[I5],by simp[I5],by simp[I5]⟩ hlt).mono ?_
 rintro e w'' ⟨M0,ai0,Kg,rfl,h1,h2,h3,hdr,h4,h5,h6,h7,h8,h9,h10,h11⟩;obtain⟨v,rfl,_,hv⟩:=hout w'' ai0 M0 [] Kg h9;have hn:=hv.LD;subst hn
 exact⟨v,rfl,⟨h1,h2,h3,h4,λb hb=>h5 b hb (by simp[I5])⟩,(nW hv).flat (oL hfl x),hdr⟩
theorem z9(hΓ : Kz P Γ)(hm:Jl own g w m)(hle:Na mm m){ks:List Ty}{r:Ty}{d:Dat F}{p:Pk (Js F ks→Option (ET F r))}(h:y9 Γ mm ks r d=some p){I7:Nat→Prop}(hi:Pd g p.fz I7){v:Value}(hr:J4 P g w d v) :
  PZ P F w I7 ks r p.x v∧p.os = []∧p.bx = []∧NP mm p.fz:=by
 unfold y9 at h;split at h
 ·rename_i ks' r' φ;split at h
  ·rename_i e;split at h
   ·rename_i e';subst e e';cases h
    cases hr with
    | fv hr=>exact⟨PZ.le (g:=g) (g':=⟨g.ids,I7,g.len⟩) ⟨λ_ _ h=>h,hi.I7,λ_ _=>rfl,λ_ h=>h,λ_ _=>rfl⟩ hr,rfl,rfl,λid hid=>by simp at hid⟩
   ·cases h
  ·cases h
 ·rename_i f cs;split at h
  ·rename_i hfl;split at h
   ·cases h
   ·rename_i sp hsp;split at h
    ·rename_i D q hD hq;cases h
     cases hr with
     | NM h1 h2 hf hc=>
      obtain⟨k1,k2⟩:=ij (P:=P) (vs:=[]) hm hle hq hi ⟨rfl,by simp⟩ ⟨h2,hc⟩
      have hv0:=O9 h1;subst hv0;exact⟨B4 (bs:=[]) (hΓ f sp hsp) hD hfl (.inl rfl) k1,rfl,rfl,k2⟩
    ·cases h
     cases hr with
     | NM h1 h2 hf hc=>
      have hv0:=O9 h1;subst hv0
      exact⟨⟨f,[],_,rfl,.inl rfl,(hΓ f sp hsp).1,λ_ _ _ _ _ _ _ h=>nomatch h⟩,rfl,rfl,λid hid=>by simp at hid⟩
  ·cases h
 ·rename_i f d0 fs cs;split at h
  ·rename_i hfl;rw[KV]at hfl;split at h
   ·cases h
   ·rename_i sp hsp;split at h
    ·rename_i D q hD hq;cases h
     cases hr with
     | NM h1 h2 hf hc=>obtain⟨k1,k2⟩:=ij (P:=P) hm hle hq hi ⟨h1,hf⟩ ⟨h2,hc⟩;exact⟨B4 (hΓ f sp hsp) hD hfl.1 (.inr (M_ hfl.2)) k1,rfl,rfl,k2⟩
    ·cases h
  ·cases h
 ·rename_i f;split at h
  ·rename_i hfl;split at h
   ·cases h
   ·rename_i sp hsp;split at h
    ·rename_i D q hD hq;cases h;have hv:=FU hr;subst hv
     obtain⟨k1,k2⟩:=ij (P:=P) (vs:=[]) (us:=[]) hm hle hq hi ⟨rfl,by simp⟩ ⟨rfl,by simp⟩
     exact⟨B4 (bs:=[]) (hΓ f sp hsp) hD hfl (.inl rfl) k1,rfl,rfl,k2⟩
    ·cases h
  ·cases h
 ·cases h
def G.lf(g:G):G:=⟨g.ids,g.al,g.len⟩
theorem s_(g:G)(w:World):Le g w g.lf w:=⟨λ_ _ h=>h,λ_ h=>.inl h,λ_ _=>rfl,λ_ h=>h,λ_ _=>rfl⟩
theorem Jl.lf(hm:Jl own g w m):Jl ⟨own.o,λb=>own.i b∨g.len b,own.nm⟩ g.lf w m:=
 ⟨λid B h=>(hm.ok id B h).le (s_ g w) (λ_ _ _=>rfl),hm.OB,λid B b h ho hb=>⟨(hm.own id B b h ho hb).1,λhi=>hi.elim (hm.own id B b h ho hb).2 λhl=>(hm.len b hl).1 (hm.own id B b h ho hb).1⟩,
  λb hb=>hb.elim (hm.I7 b) λhl=>(hm.len b hl).2,λb hb=>hb.elim (λh=>(hm.io b h).imp .inl id) λh=>.inl (.inr h),hm.len⟩
theorem wM{c:Kv F}{v:Value}(h:Ka g w c v):Ka g.lf w (Vt c) v:=by
 cases c with
 | ln d=>cases h with | ln h=>exact .im h
 | _=>exact h.le (s_ g w)
theorem yZ{d:Dat F}{v:Value}(h:J4 P g w d v):J4 P g.lf w (R5 d) v:=by
 cases h with
 | c h=>exact .c (wM h)
 | agg hl h=>
  refine .agg (by rw[OD];exact hl) λk c x a b=>?_
  rw[MU]at a;obtain⟨c0,h0,rfl⟩:=RN.1 a;exact wM (h k c0 x h0 b)
 | MI hl h=>exact(J4.MI hl h).le (s_ g w)
 | NM h1 h2 h3 h4=>exact(J4.NM h1 h2 h3 h4).le (s_ g w)
 | fv h=>exact(J4.fv h).le (s_ g w)
 | gh h=>exact(J4.gh h).le (s_ g w)
theorem wJ{ds:List (Dat F)}{vs:List Value}(h:Kq P g w ds vs):Kq P g.lf w (ds.map R5) vs:=by
 refine⟨by rw[OD];exact h.1,λk d x a b=>?_⟩
 rw[MU]at a;obtain⟨c0,h0,rfl⟩:=RN.1 a;exact yZ (h.2 k c0 x h0 b)
theorem qI(hΓ : Kz P Γ)(hm:Jl own g w m)(hle:Na mm m){k:Kd}{d:Dat F}{p:Pk (k.El F)}(h:Nt Γ mm k d=some p){I7:Nat→Prop}(hi:Pd g p.fz I7){v:Value}(hr:J4 P g w d v) :
  ∃Jv,Held P w I7 k p.x v (p.os.map (Kc g)) Jv∧p.bx.map g.ids=Jv.map some∧NP mm p.fz∧(∀id,some id∈p.os→∃B,mm id=some B∧B.owned=true)∧(∀id∈p.bx,some id∈p.os):=by
 cases k with
 | v t ow=>
  obtain⟨h1,h2,h3,h4⟩:=qQ hm hle h hi hr
  exact⟨[],⟨h1,rfl⟩,by rw[h2];rfl,NP.MH h3,h4,by rw[h2];simp⟩
 | box t ow=>
  obtain⟨id,bx,os,h1,h2,h3,h4,h5,h6,h7,h8⟩:=kM hm hle h hi hr
  refine⟨[some (RU bx)],⟨bx,os.map (Kc g),rfl,?_,h5,h6⟩,by rw[h2];simp[h4],NP.MH h7,h8,by rw[h2,h1];simp⟩
  rw[h1];simp[Kc,h4]
 | rp t=>
  obtain⟨h1,h2,h3,h4⟩:=tI hm hle h hi hr
  exact⟨[],⟨by rw[h2];rfl,rfl,h1⟩,by rw[h3];rfl,h4,by rw[h2];simp,by rw[h3];simp⟩
 | fn ks r=>
  obtain⟨h1,h2,h3,h4⟩:=z9 hΓ hm hle h hi hr
  exact⟨[],⟨by rw[h2];rfl,rfl,h1⟩,by rw[h3];rfl,h4,by rw[h2];simp,by rw[h3];simp⟩
 | O1 t=>
  obtain⟨h1,h2,h3,h4⟩:=ru hm hle h hi hr
  exact⟨[],⟨by rw[h2];rfl,rfl,h1⟩,by rw[h3];rfl,h4,by rw[h2];simp,by rw[h3];simp⟩
 | pk k t=>
  obtain⟨h1,h2,h3,h4⟩:=tZ hm hle h hi hr
  exact⟨[],⟨by rw[h2];rfl,rfl,h1⟩,by rw[h3];rfl,h4,by rw[h2];simp,by rw[h3];simp⟩
 | ln t=>
  simp only[Nt,DO]at h;split at h
  ·cases h
  ·rename_i p0 hp0;cases h;have hm2:=hm.lf;have hfz:Pd g.lf p0.fz (g.lf.Nq p0.fz).I7:=⟨λ_ h=>.inl h,λid hid b hb=>.inr ⟨id,hid,hb⟩⟩;obtain⟨h1,h2,h3,h4⟩:=qQ hm2 hle hp0 hfz (yZ hr);have hn:=h1.LD;rw[hn]at h1
   exact⟨[],⟨rfl,rfl,_,(freeze hm2 hle (NP.MH h3)).I7,h1⟩,rfl,λid hid=>by simp at hid,by simp,by simp⟩
 | nb t ow=>
  simp only[Nt,Cm]at h;split at h
  ·rename_i p0 hp0;cases h;obtain⟨id,bx,os,h1,h2,h3,h4,h5,h6,h7,h8⟩:=kM hm hle hp0 hi hr
   refine⟨[],⟨bx,os.map (Kc g),rfl,?_,h5,h6⟩,rfl,NP.MH h7,h8,by simp⟩
   dsimp only;rw[h1];simp[Kc,h4]
  ·cases h
 | cl f n=>cases h
 | row t arr=>
  obtain⟨id,pl,h1,h2,h3,h4,h5,h6,h7,l,h8⟩:=rz hm hle h hi.I7 hr
  refine⟨[pl],⟨pl,rfl,by rw[h1];simp[Kc,h5],h6,h7⟩,by rw[h2];simp[h5],λid hid=>by rw[h3]at hid;simp at hid,?_,by rw[h2,h1];simp⟩
  intro id' Ld;rw[h1]at Ld;simp only[I4,K3]at Ld;subst Ld;exact⟨_,h8,fH⟩
theorem D_{g:G}{w:World}{t:Ty}{l:List (ET F t)}{arr:Bool}{pl:Pl}{c:Nat}{v:Value}(h:bD w g.I7 t l pl)(hn:g.ids c=some pl)(hv:Vq arr pl v):J4 (F:=F) P g w (if arr then .c (.ptr c 0)else .c (.KU c)) v:=by
 cases arr with
 | true=>obtain⟨b,q,rfl,rfl⟩:=hv;exact .c (.ptr hn)
 | false=>
  refine .c ?_;have hv:Ll pl v:=hv
  cases pl with
  | none=>obtain⟨p,rfl⟩:=hv;exact .MR p hn
  | some q=>obtain⟨b,cap,n⟩:=q;obtain⟨rfl,h2,h3,_⟩:=h;cases hv;exact .KU hn h2 h3
theorem yr{g:G}{w:World}{t:Ty}{l:List (ET F t)}{arr:Bool}{pl:Pl}{c:Nat}{v:Value}(h:LX w g.I7 t l pl)(hn:g.ids c=some pl)(hv:UF t arr pl v):J4 (F:=F) P g w (MC t arr c) v:=by
 unfold UF at hv;unfold LX at h;unfold MC
 cases ht:t.KX with
 | true=>rw[ht,if_pos rfl]at hv;obtain⟨b,rfl,rfl⟩:=hv;exact .c (.Og hn)
 | false=>
  rw[ht,if_neg (by simp)]at hv h
  exact D_ h hn hv
theorem Ds{f n:Nat}{ds ds':List (Dat F)}{vs:List Value}(h:yh f n ds=some ds')(hr:Kq P g w ds vs) :
  ∃us vs',vs = .func (.func f) ⟨[]⟩ ⟨us⟩::vs'∧us.length=n∧Kq P g w ds' (us++vs'):=by
 unfold yh at h;split at h
 ·rename_i f' cs ds0;split at h
  ·rename_i hc;cases h;simp only[KV]at hc;obtain⟨v,vs',rfl,h1,h2⟩:=fj hr;have hf:=M_ hc.1;have hl:=M_ hc.2;subst hf
   cases h1 with
   | NM q1 q2 q3 q4=>
    rename_i UZ us;have e0:UZ = []:=O9 q1;subst e0
    refine⟨us,vs',rfl,by omega,by rw[I3,I3,q2,h2.1],?_⟩
    intro k d x hd hx;rw[List.getElem?_append]at hd hx;split at hd
    ·rename_i hlt
     rw[if_pos (by omega)]at hx
     exact q4 k d x hd hx
    ·rename_i hlt
     rw[if_neg (by omega),q2]at hx
     exact h2.2 _ d x hd hx
  ·cases h
 ·cases h
theorem zP{k:Kd}{ks:List Kd}{d:Dat F}{ds:List (Dat F)}(hk:k.PS=false):gM Γ mm (k::ks) (d::ds)=match Nt Γ mm k d with
  | none=>none
  | some p=>match gM Γ mm ks ds with
   | none=>none
   | some q=>some ⟨(p.x,q.x),p.os++q.os,p.fz++q.fz,p.bx++q.bx⟩:=by
 cases k with
 | cl f n=>cases hk
 | _=>rfl
theorem BG{k:Kd}{ks:List Kd}{a:HL F (k::ks)}{c:Nat}(hk:k.PS=false):Lb (k::ks) a c=((Mt k a.1 c).1::(Lb ks a.2 (Mt k a.1 c).2.2).1,(Mt k a.1 c).2.1++(Lb ks a.2 (Mt k a.1 c).2.2).2.1,(Lb ks a.2 (Mt k a.1 c).2.2).2.2):=by
 cases k with
 | cl f n=>cases hk
 | _=>rfl
theorem DX{g:G}{w:World}{f n:Nat}{ds:List (Dat F)}{us vs:List Value}(hl:us.length=n)(h:Kq P g w ds (us++vs)) :
  Kq P g w (.NM (.func f) [] (ds.take n)::ds.drop n) (.func (.func f) ⟨[]⟩ ⟨us⟩::vs):=by
 have hlen:ds.length=us.length+vs.length:=by rw[← h.1,I3]
 refine aP.2 ⟨.NM rfl (by rw[Lj];omega) (λk c x a b=>by simp at a) ?_,?_,?_⟩
 ·intro k c x a b;rw[MV]at a;split at a
  ·exact h.2 k c x a (by rw[ME (I0.1 b).1];exact b)
  ·cases a
 ·rw[Nh];omega
 ·intro k c x a b;rw[OC]at a
  exact h.2 (n+k) c x a (by rw[Nj (by omega),← hl,W9];exact b)
theorem mc(hΓ : Kz P Γ)(hm:Jl own g w m)(hle:Na mm m):∀{ks:List Kd}{ds:List (Dat F)} {p:Pk (HL F ks)},gM Γ mm ks ds=some p→∀{I7:Nat→Prop},Pd g p.fz I7→∀{vs:List Value},Kq P g w ds vs→
  ∃Jv,bR P w I7 ks p.x vs (p.os.map (Kc g)) Jv∧p.bx.map g.ids=Jv.map some∧NP mm p.fz∧(∀id,some id∈p.os→∃B,mm id=some B∧B.owned=true)∧(∀id∈p.bx,some id∈p.os)
 | [],ds,p,h,I7,hi,vs,hr=>by
  cases ds with
  | cons d ds=>simp[gM]at h
  | nil=>
   simp only[gM,K3]at h;subst h;have:=em hr;subst this
   exact⟨[],⟨rfl,rfl,rfl⟩,rfl,λid hid=>by simp at hid,by simp,by simp⟩
 | k::ks,ds,p,h,I7,hi,vs,hr=>by
  cases hk:k.PS with
  | true=>
   cases k with
   | cl f n=>
    simp only[gM]at h;split at h
    ·cases h
    ·rename_i ds' hds;split at h
     ·cases h
     ·rename_i q hq;cases h;obtain⟨us,vs',rfl,hn,hr'⟩:=Ds hds hr;obtain⟨b2,l1,l2,l3,l4,l5⟩:=mc hΓ hm hle hq hi hr';exact⟨b2,⟨us,vs',rfl,hn,l1⟩,l2,l3,l4,l5⟩
   | _=>cases hk
  | false=>
  cases ds with
  | nil=>cases k<;>first | exact nomatch (show(none:Option (Pk (HL F (_::ks))))=some p from h) | cases hk
  | cons d ds=>
   rw[zP hk]at h;split at h
   ·cases h
   ·rename_i p1 hp1;split at h
    ·cases h
    ·rename_i p2 hp2;cases h;obtain⟨v,vs',rfl,h1,h2⟩:=fj hr
     obtain⟨b1,k1,k2,k3,k4,k5⟩:=qI hΓ hm hle hp1 (hi.sub (λid hid=>by simp[hid])) h1
     obtain⟨b2,l1,l2,l3,l4,l5⟩:=mc hΓ hm hle hp2 (hi.sub (λid hid=>by simp[hid])) h2
     refine⟨b1++b2,r8 hk ⟨v,vs',p1.os.map (Kc g),p2.os.map (Kc g),b1,b2,rfl,by simp,rfl,k1,l1⟩,by simp[k2,l2],k3.append l3,?_,?_⟩
     ·intro id hid;rcases Mr.1 hid with hid | hid
      ·exact k4 id hid
      ·exact l4 id hid
     ·intro id hid;rcases Mr.1 hid with hid | hid
      ·exact WJ _ (k5 id hid)
      ·exact WK _ (l5 id hid)
def MG(g:G)(c:Nat)(Jg:List Pl):Prop:=∀j pl,Jg[j]? = some pl→g.ids (c+j)=some pl
theorem MG.left{c:Nat}{p q:List Pl}(h:MG g c (p++q)):MG g c p:=λj pl hj=>h j pl (by rw[ME (I0.1 hj).1];exact hj)
theorem MG.right{c:Nat}{p q:List Pl}(h:MG g c (p++q)):MG g (c+p.length) q:=λj pl hj=>by
 have:=h (p.length+j) pl (by rw[Nj (by omega)];simpa using hj)
 rwa [PD]
def Laid(g:G)(w:World)(c n:Nat)(bs:List (Nat×J8 F)):Prop:=∀p∈bs,∃j,p.1=c+j∧j<n∧p.2.owned=true∧KQ g w p.1 p.2
theorem Laid.append{c n1 n2:Nat}{b1 b2:List (Nat×J8 F)}(h1:Laid g w c n1 b1)(h2:Laid g w (c+n1) n2 b2):Laid g w c (n1+n2) (b1++b2):=by
 intro p hp;rcases Mr.1 hp with hp | hp
 ·obtain⟨j,k1,k2,k3⟩:=h1 p hp;exact⟨j,k1,by omega,k3⟩
 ·obtain⟨j,k1,k2,k3⟩:=h2 p hp;exact⟨n1+j,by omega,by omega,k3⟩
theorem BR{g:G}{w:World}{t:Ty}{l:List (ET F t)}{pl:Pl}{c:Nat}(h:bD w g.I7 t l pl)(hn:g.ids c=some pl):KQ g w c (.row t l):=by
 cases pl with
 | none=>exact .inl ⟨hn,h⟩
 | some q=>obtain⟨b,cap,n⟩:=q;obtain⟨rfl,h2,h3,cur,e,h4,h5,h6⟩:=h;exact .inr ⟨b,cap,cur,e,hn,h4,h2,h3,h5,h6⟩
theorem Fd{g:G}{w:World}{t:Ty}{l:List (ET F t)}{pl:Pl}{c:Nat}{v:Value}(h:bD w g.I7 t l pl)(hn:g.ids c=some pl)(hv:Ll pl v):Ka (F:=F) g w (.KU c) v:=by
 cases pl with
 | none=>obtain⟨p,rfl⟩:=hv;exact .MR p hn
 | some q=>obtain⟨b,cap,n⟩:=q;obtain⟨rfl,h2,h3,_⟩:=h;cases hv;exact .KU hn h2 h3
theorem D5{g:G}{w:World}{t:Ty}{l:List (ET F t)}{pl:Pl}{c:Nat}{v:Value}(h:Nc w g.I7 t l pl)(hn:g.ids c=some pl)(hv:Ll pl v):Ka (F:=F) g w (.KU c) v:=by
 cases pl with
 | none=>obtain⟨p,rfl⟩:=hv;exact .MR p hn
 | some q=>
  obtain⟨b,cap,n⟩:=q;obtain⟨h1,h2,h3,_⟩:=h;cases hv
  exact .KU hn (by rw[h1];exact h2) h3
theorem nO{g:G}{w:World}{t:Ty}{l:List (ET F t)}{pl:Pl}{c:Nat}(h:LX w g.I7 t l pl)(hn:g.ids c=some pl):KQ g w c (OE t l):=by
 unfold LX at h;unfold OE
 cases ht:t.KX with
 | true=>rw[ht,if_pos rfl]at h;obtain⟨b,rfl,h⟩:=h;exact⟨b,hn,h⟩
 | false=>
  rw[ht,if_neg (by simp)]at h
  exact BR h hn
theorem CJ{g:G}{w:World}{t:Ty}{l:List (ET F t)}{pl:Pl}{c:Nat}{v:Value}(h:LX w g.I7 t l pl)(hn:g.ids c=some pl)(hv:Pp t pl v):Ka (F:=F) g w (aax F t c) v:=by
 unfold LX at h;unfold Pp at hv;unfold aax
 cases ht:t.KX with
 | true=>rw[ht,if_pos rfl]at hv;obtain⟨b,rfl,rfl⟩:=hv;exact .Og hn
 | false=>
  rw[ht,if_neg (by simp)]at h hv
  exact Fd h hn hv
theorem iy{ow:List Nat}:∀{ds:List (ND F)} {k c:Nat} {vs:List Value} {Jg:List Pl},Ke w g.I7 ow k ds vs Jg→MG g c Jg→
  (L9 ow k c ds).1.length=vs.length∧(∀(j:Nat)(x:Kv F)(v:Value),(L9 ow k c ds).1[j]? = some x→vs[j]? = some v→Ka g w x v)∧Laid g w c Jg.length (L9 ow k c ds).2.1∧(L9 ow k c ds).2.2=c+Jg.length∧vs.length=ds.length
 | [],k,c,vs,Jg,h,hn=>by
  cases vs with
  | cons v vs=>simp[Ke]at h
  | nil=>
   simp only[Ke]at h;subst h
   exact⟨rfl,by simp[L9],λp hp=>by simp[L9]at hp,rfl,rfl⟩
 | d::ds,k,c,vs,Jg,h,hn=>by
  cases vs with
  | nil=>simp[Ke]at h
  | cons v vs=>
   simp only[Ke]at h;split at h
   ·rename_i hk;split at h
    ·rename_i t l;obtain⟨pl,rest,rfl,h1,h2,h3⟩:=h;have hn0:g.ids c=some pl:=hn 0 pl rfl
     have hn':MG g (c+1) rest:=λj q hj=>by
      have:=hn (j+1) q (by simpa using hj)
      rwa [show c+1+j=c+(j+1)by omega]
     obtain⟨k1,k2,k3,k4,k5⟩:=iy (c:=c+1) h3 hn';simp only[L9,hk,if_true]
     refine⟨by simp[k1],?_,?_,by rw[k4,P8];omega,by simp[k5]⟩
     ·intro j x u hx hu
      cases j with
      | zero=>simp only[M9,K3]at hx hu;subst hx hu;exact CJ h1 hn0 h2
      | succ j=>exact k2 j x u (by simpa using hx) (by simpa using hu)
     ·intro p hp;rcases Lr.1 hp with rfl | hp
      ·exact⟨0,rfl,by simp,fH,nO h1 hn0⟩
      ·obtain⟨j,q1,q2,q3⟩:=k3 p hp
       exact⟨j+1,by omega,by simp only[P8];omega,q3⟩
    ·exact h.elim
   ·rename_i hk;split at h
    ·rename_i hk2;split at h
     ·rename_i t l;obtain⟨pl,rest,rfl,h1,h2,h3⟩:=h;have hn0:g.ids c=some pl:=hn 0 pl rfl
      have hn':MG g (c+1) rest:=λj q hj=>by
       have:=hn (j+1) q (by simpa using hj)
       rwa [show c+1+j=c+(j+1)by omega]
      obtain⟨k1,k2,k3,k4,k5⟩:=iy (c:=c+1) h3 hn';simp only[L9,hk,hk2,Ni,if_false,if_true]
      refine⟨by simp[k1],?_,?_,by rw[k4,P8];omega,by simp[k5]⟩
      ·intro j x u hx hu
       cases j with
       | zero=>simp only[M9,K3]at hx hu;subst hx hu;exact D5 h1 hn0 h2
       | succ j=>exact k2 j x u (by simpa using hx) (by simpa using hu)
      ·intro p hp;rcases Lr.1 hp with rfl | hp
       ·exact⟨0,rfl,by simp,rfl,⟨pl,hn0,h1⟩⟩
       ·obtain⟨j,q1,q2,q3⟩:=k3 p hp
        exact⟨j+1,by omega,by simp only[P8];omega,q3⟩
     ·exact h.elim
    ·rename_i hk2;obtain⟨k1,k2,k3,k4,k5⟩:=iy (c:=c) h.2 hn;simp only[L9,hk,hk2,Ni,if_false]
     refine⟨by simp[k1],?_,k3,k4,by simp[k5]⟩
     intro j x u hx hu
     cases j with
     | zero=>simp only[M9,K3]at hx hu;subst hx hu;exact .im h.1
     | succ j=>exact k2 j x u (by simpa using hx) (by simpa using hu)
theorem EA{t:Ty}{ow:List Nat}{x:ET F t}{v:Value}{Jg:List Pl}{c:Nat}(h:KG w g.I7 t ow x v Jg)(hn:MG g c Jg) :
  J4 P g w (Sr t (L9 ow 0 c (Jj F t x)).1) v∧Laid g w c Jg.length (L9 ow 0 c (Jj F t x)).2.1∧(L9 ow 0 c (Jj F t x)).2.2=c+Jg.length:=by
 unfold KG at h;unfold Sr;split at h
 ·rename_i hs;obtain⟨vs,rfl,h⟩:=h;obtain⟨k1,k2,k3,k4,_⟩:=iy (c:=c) h hn;rw[if_pos hs];exact⟨.agg k1.symm k2,k3,k4⟩
 ·rename_i hs;obtain⟨k1,k2,k3,k4,_⟩:=iy (c:=c) h hn;rw[if_neg hs];refine⟨?_,k3,k4⟩
  cases hc:(L9 ow 0 c (Jj F t x)).1 with
  | nil=>rw[hc]at k1;simp at k1
  | cons y r=>
   rw[hc]at k1 k2
   cases r with
   | nil=>exact .c (k2 0 y v rfl rfl)
   | cons z r=>exact .c .any
theorem cg{k:Kd}{x:k.El F}{v:Value}{Jg:List Pl}{Jv:List Pl}{c:Nat}(h:Held P w g.I7 k x v Jg Jv)(hn:MG g c Jg) :
  J4 P g w (Mt k x c).1 v∧Laid g w c Jg.length (Mt k x c).2.1∧(Mt k x c).2.2=c+Jg.length:=by
 cases k with
 | v t ow=>exact EA h.1 hn
 | box t ow=>
  obtain⟨bx,rest,rfl,rfl,rfl,arr,e,h1,h2⟩:=h;have hn0:g.ids c=some (some (RU bx)):=hn 0 _ rfl
  have hn':MG g (c+1) rest:=λj q hj=>by
   have:=hn (j+1) q (by simpa using hj)
   rwa [show c+1+j=c+(j+1)by omega]
  obtain⟨k1,k2,k3,k4,k5⟩:=iy (c:=c+1) h2 hn';simp only[Mt]
  refine⟨.c (.ptr hn0),?_,by rw[k4,P8];omega⟩
  intro p hp;rcases Lr.1 hp with rfl | hp
  ·exact⟨0,rfl,by simp,rfl,bx.1,bx.2,arr,e,hn0,h1,k1.symm,k2⟩
  ·obtain⟨j,q1,q2,q3⟩:=k3 p hp
   exact⟨j+1,by omega,by simp only[P8];omega,q3⟩
 | rp t=>
  obtain⟨rfl,rfl,h⟩:=h
  refine⟨.c ?_,λp hp=>by simp[Mt]at hp,rfl⟩
  exact Ka.le (g:=⟨λ_=>none,g.I7,λ_=>False⟩) (g':=g) (w':=w) ⟨λ_ _ h=>(by cases h),λ_ h=>h,λ_ _=>rfl,λ_ h=>h.elim,λ_ h=>h.elim⟩ h
 | O1 t=>
  obtain⟨rfl,rfl,h⟩:=h
  refine⟨.c ?_,λp hp=>by simp[Mt]at hp,rfl⟩
  exact Ka.le (g:=⟨λ_=>none,g.I7,λ_=>False⟩) (g':=g) (w':=w) ⟨λ_ _ h=>(by cases h),λ_ h=>h,λ_ _=>rfl,λ_ h=>h.elim,λ_ h=>h.elim⟩ h
 | fn ks r=>
  obtain⟨rfl,rfl,h⟩:=h
  exact⟨.fv h,λp hp=>by simp[Mt]at hp,rfl⟩
 | ln t=>
  obtain⟨rfl,rfl,h⟩:=h
  exact⟨.c .any,λp hp=>by simp[Mt]at hp,rfl⟩
 | pk k t=>
  obtain⟨rfl,rfl,h⟩:=h
  exact⟨.c .any,λp hp=>by simp[Mt]at hp,rfl⟩
 | cl f n=>exact h.elim
 | nb t ow=>
  obtain⟨bx,rest,rfl,rfl,rfl,arr,e,h1,h2⟩:=h;have hn0:g.ids c=some (some (RU bx)):=hn 0 _ rfl
  have hn':MG g (c+1) rest:=λj q hj=>by
   have:=hn (j+1) q (by simpa using hj)
   rwa [show c+1+j=c+(j+1)by omega]
  obtain⟨k1,k2,k3,k4,k5⟩:=iy (c:=c+1) h2 hn';simp only[Mt]
  refine⟨.c (.ptr hn0),?_,by rw[k4,P8];omega⟩
  intro p hp;rcases Lr.1 hp with rfl | hp
  ·exact⟨0,rfl,by simp,rfl,bx.1,bx.2,arr,e,hn0,h1,k1.symm,k2⟩
  ·obtain⟨j,q1,q2,q3⟩:=k3 p hp
   exact⟨j+1,by omega,by simp only[P8];omega,q3⟩
 | row t arr=>
  obtain⟨pl,rfl,rfl,h1,h2⟩:=h;have hn0:g.ids c=some pl:=hn 0 _ rfl;simp only[Mt];refine⟨yr h1 hn0 h2,?_,rfl⟩;intro p hp;rw[I4]at hp;subst hp
  exact⟨0,rfl,by simp,fH,nO h1 hn0⟩
theorem qw:∀{ks:List Kd}{a:HL F ks}{vs:List Value}{Jg:List Pl} {Jv:List Pl} {c:Nat},bR P w g.I7 ks a vs Jg Jv→MG g c Jg→
  Kq P g w (Lb ks a c).1 vs∧Laid g w c Jg.length (Lb ks a c).2.1∧(Lb ks a c).2.2=c+Jg.length∧(aN ks a c).map g.ids=Jv.map some
 | [],a,vs,Jg,Jv,c,h,hn=>by
  obtain⟨rfl,rfl,rfl⟩:=h
  exact⟨⟨rfl,by simp[Lb]⟩,λp hp=>by simp[Lb]at hp,rfl,rfl⟩
 | k::ks,a,vs,Jg,Jv,c,h,hn=>by
  cases hk:k.PS with
  | true=>
   cases k with
   | cl f n=>
    obtain⟨us,vs',rfl,hl,h2⟩:=h;obtain⟨l1,l2,l3,l4⟩:=qw (c:=c) h2 hn;simp only[Lb]
    exact⟨DX hl l1,l2,l3,by simp only[aN,Mt];exact l4⟩
   | _=>cases hk
  | false=>
  obtain⟨v,vs',p1,p2,b1,b2,rfl,rfl,rfl,h1,h2⟩:=lX hk h;rw[BG hk];obtain⟨k1,k2,k3⟩:=cg (c:=c) h1 hn.left;obtain⟨l1,l2,l3,l4⟩:=qw (c:=c+p1.length) h2 hn.right;rw[k3];dsimp only
  refine⟨aP.2 ⟨k1,l1⟩,by rw[I3];exact k2.append l2,by rw[l3,I3];omega,?_⟩
  have hb:(aN (k::ks) a c).map g.ids=b1.map some++(aN ks a.2 (c+p1.length)).map g.ids:=by
   cases k with
   | box t ow=>obtain⟨bx,rest,rfl,rfl,_⟩:=h1;have hn0:g.ids c=some (some (RU bx)):=hn 0 _ rfl;simp only[aN,k3,K7,hn0,LG,List.singleton_append]
   | v t ow=>have:=h1.2;subst this;simp only[aN,k3,LG,O7]
   | rp t=>have:=h1.2.1;subst this;simp only[aN,k3,LG,O7]
   | fn ks' r=>have:=h1.2.1;subst this;simp only[aN,k3,LG,O7]
   | O1 t=>have:=h1.2.1;subst this;simp only[aN,k3,LG,O7]
   | pk k t=>have:=h1.2.1;subst this;simp only[aN,k3,LG,O7]
   | ln t=>have:=h1.2.1;subst this;simp only[aN,k3,LG,O7]
   | nb t ow=>obtain⟨_,_,rfl,_⟩:=h1;simp only[aN,k3,LG,O7]
   | cl f n=>cases hk
   | row t arr=>obtain⟨pl,rfl,rfl,_⟩:=h1;have hn0:g.ids c=some pl:=hn 0 _ rfl;simp only[aN,k3,K7,hn0,LG,List.singleton_append]
  rw[hb,l4,SQ]
end
set_option linter.unusedVariables false
set_option linter.unusedSimpArgs false
section
variable{F:Fam}{P:Program}{own:Ow}{g:G}{w:World}{m mm:Nat→Option (J8 F)}{Γ : Ctx F}
theorem bQ{b:Nat}:∀{Jg:List Pl},b∈I5 Jg↔∃(j:Nat)(b0:Nat)(x:Nat×Nat×NS),Jg[j]? = some (some (b0,x))∧b∈b0::Kr x.2.2
 | []=>by simp[I5]
 | none::l=>by
  simp only[I5,bQ];constructor
  ·rintro⟨j,b0,x,h,h'⟩;exact⟨j+1,b0,x,by simpa using h,h'⟩
  ·rintro⟨j,b0,x,h,h'⟩
   cases j with
   | zero=>simp at h
   | succ j=>exact⟨j,b0,x,by simpa using h,h'⟩
 | some (b',y)::l=>by
  simp only[I5];rw[← SS,Mr,bQ];constructor
  ·rintro(h | ⟨j,b0,x,h,h'⟩)
   ·exact⟨0,b',y,rfl,h⟩
   ·exact⟨j+1,b0,x,by simpa using h,h'⟩
  ·rintro⟨j,b0,x,h,h'⟩
   cases j with
   | zero=>simp only[M9,K3,Prod.mk.injEq]at h;obtain⟨rfl,rfl⟩:=h;exact .inl h'
   | succ j=>exact .inr ⟨j,b0,x,by simpa using h,h'⟩
theorem iM{b:Nat}:∀{Jg:List Pl},(I5 Jg).Nodup→∀{j j' b0 b0':Nat}{x x':Nat×Nat×NS},Jg[j]? = some (some (b0,x))→b∈b0::Kr x.2.2→Jg[j']? = some (some (b0',x'))→b∈b0'::Kr x'.2.2→j=j'
 | [],_,j,j',b0,b0',x,x',h,_,h',_=>by simp at h
 | none::l,hn,j,j',b0,b0',x,x',h,hb,h',hb'=>by
  cases j with
  | zero=>simp at h
  | succ j=>
   cases j' with
   | zero=>simp at h'
   | succ j'=>exact congrArg (· + 1) (iM (Jg:=l) hn (by simpa using h) hb (by simpa using h') hb')
 | some (b',y)::l,hn,j,j',b0,b0',x,x',h,hb,h',hb'=>by
  simp only[I5]at hn;rw[← SS]at hn;obtain⟨n1,n2,n3⟩:=WI.1 hn
  cases j with
  | zero=>
   cases j' with
   | zero=>rfl
   | succ j'=>
    simp only[M9,K3,Prod.mk.injEq]at h;obtain⟨rfl,rfl⟩:=h
    exact absurd rfl (n3 b hb b (bQ.2 ⟨j',b0',x',by simpa using h',hb'⟩))
  | succ j=>
   cases j' with
   | zero=>
    simp only[M9,K3,Prod.mk.injEq]at h';obtain⟨rfl,rfl⟩:=h'
    exact absurd rfl (n3 b hb' b (bQ.2 ⟨j,b0,x,by simpa using h,hb⟩))
   | succ j'=>exact congrArg (· + 1) (iM (Jg:=l) n2 (by simpa using h) hb (by simpa using h') hb')
theorem av:∀{p q:List Pl},I5 (p++q)=I5 p++I5 q
 | [],q=>rfl
 | none::p,q=>by simp only[SS,I5,av]
 | some (b,x)::p,q=>by simp only[SS,I5,av,MK]
def Oo(g:G)(w:World)(c n:Nat)(bx:List Nat)(bs:List (Nat×J8 F)):Prop:=∀p∈bs,p.2.owned=true∧KQ g w p.1 p.2∧((∃j,p.1=c+j∧j<n)∨p.1∈bx)
theorem Laid.back{c n:Nat}{bs:List (Nat×J8 F)}(h:Laid g w c n bs):Oo g w c n [] bs:=by intro p hp;obtain⟨j,h1,h2,h3,h4⟩:=h p hp;exact⟨h3,h4,.inl ⟨j,h1,h2⟩⟩
theorem Oo.append{c n1 n2:Nat}{x1 x2:List Nat}{b1 b2:List (Nat×J8 F)}(h1:Oo g w c n1 x1 b1)(h2:Oo g w (c+n1) n2 x2 b2):Oo g w c (n1+n2) (x1++x2) (b1++b2):=by
 intro p hp;rcases Mr.1 hp with hp | hp
 ·obtain⟨k1,k2,⟨j,k3,k4⟩ | k3⟩:=h1 p hp
  ·exact⟨k1,k2,.inl ⟨j,k3,by omega⟩⟩
  ·exact⟨k1,k2,.inr (by simp[k3])⟩
 ·obtain⟨k1,k2,⟨j,k3,k4⟩ | k3⟩:=h2 p hp
  ·exact⟨k1,k2,.inl ⟨n1+j,by omega,by omega⟩⟩
  ·exact⟨k1,k2,.inr (by simp[k3])⟩
theorem uC{t:Ty}{ow:List Nat}{x:ET F t}{bx:Nat×Nat×Nat}{b c:Nat}{Jg:List Pl}(h:Pq w g.I7 t ow x bx.1 Jg)(hb:g.ids b=some (some (RU bx)))(hn:MG g c Jg) :
  Oo g w c Jg.length [b] ((b,.box (L9 ow 0 c (Jj F t x)).1)::(L9 ow 0 c (Jj F t x)).2.1)∧(L9 ow 0 c (Jj F t x)).2.2=c+Jg.length:=by
 obtain⟨arr,e,h1,h2⟩:=h;obtain⟨k1,k2,k3,k4,_⟩:=iy (c:=c) h2 hn;refine⟨?_,k4⟩;intro p hp;rcases Lr.1 hp with rfl | hp
 ·exact⟨rfl,⟨bx.1,bx.2,arr,e,hb,h1,k1.symm,k2⟩,.inr (by simp)⟩
 ·obtain⟨j,q1,q2,q3,q4⟩:=k3 p hp;exact⟨q3,q4,.inl ⟨j,q1,q2⟩⟩
theorem gT{α β : Type}{f:α→β}{l:List α}{y:β}{r:List β}(h:l.map f=y::r):∃x l',l=x::l'∧f x=y∧l'.map f=r:=by
 cases l with
 | nil=>simp at h
 | cons x l'=>simp only[K7,QeW]at h;exact⟨x,l',rfl,h.1,h.2⟩
theorem dm:∀{ks:List Kd}{a:TL F ks}{vs:List Value}{Jv:List Pl} {Jg:List Pl} {bx:List Nat} {c:Nat},bF P w g.I7 ks a vs Jv Jg→MG g c Jg→bx.map g.ids=Jv.map some→
  Kq P g w (ap ks a bx c).1 vs∧Oo g w c Jg.length bx (ap ks a bx c).2.1∧(ap ks a bx c).2.2=c+Jg.length
 | [],a,vs,Jv,Jg,bx,c,h,hn,hb=>by
  obtain⟨rfl,rfl,rfl⟩:=h
  exact⟨⟨rfl,by simp[ap]⟩,λp hp=>by simp[ap]at hp,rfl⟩
 | [.box t ow],a,vs,Jv,Jg,bx,c,h,hn,hb=>by
  obtain⟨b,rfl,rfl,h⟩:=h;obtain⟨i,bx',rfl,h1,h2⟩:=gT hb
  have:bx' = []:=by simpa using h2
  subst this;obtain⟨k1,k2⟩:=uC h h1 hn
  exact⟨⟨rfl,by simp[ap]⟩,by simpa[ap]using k1,by simpa[ap]using k2⟩
 | [.row t arr],a,vs,Jv,Jg,bx,c,h,hn,hb=>by
  obtain⟨pl,rfl,rfl,h,rfl⟩:=h;obtain⟨i,bx',rfl,h1,h2⟩:=gT hb
  have:bx' = []:=by simpa using h2
  subst this
  refine⟨⟨rfl,by simp[ap]⟩,?_,rfl⟩
  intro p hp;simp only[ap,I4]at hp;subst hp
  exact⟨fH,nO h h1,.inr (by simp)⟩
 | .row t arr::l::ks,a,vs,Jv,Jg,bx,c,h,hn,hb=>by
  obtain⟨pl,Nv,rfl,h1,h2⟩:=h;obtain⟨i,bx',rfl,h3,h4⟩:=gT hb;obtain⟨l1,l2,l3⟩:=dm (c:=c) h2 hn h4;simp only[ap];refine⟨l1,?_,l3⟩;intro p hp;rcases Lr.1 hp with rfl | hp
  ·exact⟨fH,nO h1 h3,.inr (by simp)⟩
  ·obtain⟨q1,q2,q3⟩:=l2 p hp
   exact⟨q1,q2,q3.imp id (λh=>by simp[h])⟩
 | [.v t ow],a,vs,Jv,Jg,bx,c,h,hn,hb=>by
  obtain⟨v,rfl,rfl,h⟩:=h;obtain⟨k1,k2,k3⟩:=cg (c:=c) h hn
  have:bx = []:=by simpa using hb
  subst this
  exact⟨⟨rfl,λk d x h1 h2=>by cases k with | zero=>simp[ap]at h1 h2;subst h1 h2;exact k1 | succ k=>simp[ap]at h1⟩,by simpa[ap]using k2.back,by simpa[ap]using k3⟩
 | [.cl f n],a,vs,Jv,Jg,bx,c,h,hn,hb=>by obtain⟨v,rfl,rfl,h⟩:=h;exact h.elim
 | .cl f n::l::ks,a,vs,Jv,Jg,bx,c,h,hn,hb=>by obtain⟨v,vs',p1,p2,rfl,rfl,h1,h2⟩:=h;exact h1.elim
 | [.rp t],a,vs,Jv,Jg,bx,c,h,hn,hb=>by
  obtain⟨v,rfl,rfl,h⟩:=h;obtain⟨k1,k2,k3⟩:=cg (c:=c) h hn
  have:bx = []:=by simpa using hb
  subst this
  exact⟨⟨rfl,λk d x h1 h2=>by cases k with | zero=>simp[ap]at h1 h2;subst h1 h2;exact k1 | succ k=>simp[ap]at h1⟩,by simpa[ap]using k2.back,by simpa[ap]using k3⟩
 | [.O1 t],a,vs,Jv,Jg,bx,c,h,hn,hb=>by
  obtain⟨v,rfl,rfl,h⟩:=h;obtain⟨k1,k2,k3⟩:=cg (c:=c) h hn
  have:bx = []:=by simpa using hb
  subst this
  exact⟨⟨rfl,λk d x h1 h2=>by cases k with | zero=>simp[ap]at h1 h2;subst h1 h2;exact k1 | succ k=>simp[ap]at h1⟩,by simpa[ap]using k2.back,by simpa[ap]using k3⟩
 | [.pk k0 t],a,vs,Jv,Jg,bx,c,h,hn,hb=>by
  obtain⟨v,rfl,rfl,h⟩:=h;obtain⟨k1,k2,k3⟩:=cg (c:=c) h hn
  have:bx = []:=by simpa using hb
  subst this
  exact⟨⟨rfl,λk d x h1 h2=>by cases k with | zero=>simp[ap]at h1 h2;subst h1 h2;exact k1 | succ k=>simp[ap]at h1⟩,by simpa[ap]using k2.back,by simpa[ap]using k3⟩
 | [.ln t],a,vs,Jv,Jg,bx,c,h,hn,hb=>by
  obtain⟨v,rfl,rfl,h⟩:=h;obtain⟨k1,k2,k3⟩:=cg (c:=c) h hn
  have:bx = []:=by simpa using hb
  subst this
  exact⟨⟨rfl,λk d x h1 h2=>by cases k with | zero=>simp[ap]at h1 h2;subst h1 h2;exact k1 | succ k=>simp[ap]at h1⟩,by simpa[ap]using k2.back,by simpa[ap]using k3⟩
 | [.nb t ow],a,vs,Jv,Jg,bx,c,h,hn,hb=>by
  obtain⟨v,rfl,rfl,h⟩:=h;obtain⟨k1,k2,k3⟩:=cg (c:=c) h hn
  have:bx = []:=by simpa using hb
  subst this
  exact⟨⟨rfl,λk d x h1 h2=>by cases k with | zero=>simp[ap]at h1 h2;subst h1 h2;exact k1 | succ k=>simp[ap]at h1⟩,by simpa[ap]using k2.back,by simpa[ap]using k3⟩
 | [.fn ks r],a,vs,Jv,Jg,bx,c,h,hn,hb=>by
  obtain⟨v,rfl,rfl,h⟩:=h;obtain⟨k1,k2,k3⟩:=cg (c:=c) h hn
  have:bx = []:=by simpa using hb
  subst this
  exact⟨⟨rfl,λk d x h1 h2=>by cases k with | zero=>simp[ap]at h1 h2;subst h1 h2;exact k1 | succ k=>simp[ap]at h1⟩,by simpa[ap]using k2.back,by simpa[ap]using k3⟩
 | .box t ow::l::ks,a,vs,Jv,Jg,bx,c,h,hn,hb=>by
  obtain⟨b,Nv,p1,p2,rfl,rfl,h1,h2⟩:=h;obtain⟨i,bx',rfl,h3,h4⟩:=gT hb;obtain⟨k1,k2⟩:=uC h1 h3 hn.left;obtain⟨l1,l2,l3⟩:=dm (c:=c+p1.length) h2 hn.right h4;simp only[ap];rw[k2]
  refine⟨l1,?_,by rw[l3,I3];omega⟩
  rw[I3];have:=k1.append l2;simpa using this
 | .v t ow::l::ks,a,vs,Jv,Jg,bx,c,h,hn,hb=>by
  obtain⟨v,vs',p1,p2,rfl,rfl,h1,h2⟩:=h;obtain⟨k1,k2,k3⟩:=cg (c:=c) h1 hn.left;obtain⟨l1,l2,l3⟩:=dm (c:=c+p1.length) h2 hn.right hb;simp only[ap];rw[k3]
  refine⟨aP.2 ⟨k1,l1⟩,?_,by rw[l3,I3];omega⟩
  rw[I3];simpa using k2.back.append l2
 | .rp t::l::ks,a,vs,Jv,Jg,bx,c,h,hn,hb=>by
  obtain⟨v,vs',p1,p2,rfl,rfl,h1,h2⟩:=h;obtain⟨k1,k2,k3⟩:=cg (c:=c) h1 hn.left;obtain⟨l1,l2,l3⟩:=dm (c:=c+p1.length) h2 hn.right hb;simp only[ap];rw[k3]
  refine⟨aP.2 ⟨k1,l1⟩,?_,by rw[l3,I3];omega⟩
  rw[I3];simpa using k2.back.append l2
 | .O1 t::l::ks,a,vs,Jv,Jg,bx,c,h,hn,hb=>by
  obtain⟨v,vs',p1,p2,rfl,rfl,h1,h2⟩:=h;obtain⟨k1,k2,k3⟩:=cg (c:=c) h1 hn.left;obtain⟨l1,l2,l3⟩:=dm (c:=c+p1.length) h2 hn.right hb;simp only[ap];rw[k3]
  refine⟨aP.2 ⟨k1,l1⟩,?_,by rw[l3,I3];omega⟩
  rw[I3];simpa using k2.back.append l2
 | .pk k0 t::l::ks,a,vs,Jv,Jg,bx,c,h,hn,hb=>by
  obtain⟨v,vs',p1,p2,rfl,rfl,h1,h2⟩:=h;obtain⟨k1,k2,k3⟩:=cg (c:=c) h1 hn.left;obtain⟨l1,l2,l3⟩:=dm (c:=c+p1.length) h2 hn.right hb;simp only[ap];rw[k3]
  refine⟨aP.2 ⟨k1,l1⟩,?_,by rw[l3,I3];omega⟩
  rw[I3];simpa using k2.back.append l2
 | .ln t::l::ks,a,vs,Jv,Jg,bx,c,h,hn,hb=>by
  obtain⟨v,vs',p1,p2,rfl,rfl,h1,h2⟩:=h;obtain⟨k1,k2,k3⟩:=cg (c:=c) h1 hn.left;obtain⟨l1,l2,l3⟩:=dm (c:=c+p1.length) h2 hn.right hb;simp only[ap];rw[k3]
  refine⟨aP.2 ⟨k1,l1⟩,?_,by rw[l3,I3];omega⟩
  rw[I3];simpa using k2.back.append l2
 | .nb t ow::l::ks,a,vs,Jv,Jg,bx,c,h,hn,hb=>by
  obtain⟨v,vs',p1,p2,rfl,rfl,h1,h2⟩:=h;obtain⟨k1,k2,k3⟩:=cg (c:=c) h1 hn.left;obtain⟨l1,l2,l3⟩:=dm (c:=c+p1.length) h2 hn.right hb;simp only[ap];rw[k3]
  refine⟨aP.2 ⟨k1,l1⟩,?_,by rw[l3,I3];omega⟩
  rw[I3];simpa using k2.back.append l2
 | .fn ks' r::l::ks,a,vs,Jv,Jg,bx,c,h,hn,hb=>by
  obtain⟨v,vs',p1,p2,rfl,rfl,h1,h2⟩:=h;obtain⟨k1,k2,k3⟩:=cg (c:=c) h1 hn.left;obtain⟨l1,l2,l3⟩:=dm (c:=c+p1.length) h2 hn.right hb;simp only[ap];rw[k3]
  refine⟨aP.2 ⟨k1,l1⟩,?_,by rw[l3,I3];omega⟩
  rw[I3];simpa using k2.back.append l2
theorem qD{I7 Jo:Nat→Prop}:∀{ds:List (ND F)} {k:Nat} {vs:List Value} {Jg:List Pl},(∀d∈ds,d.flat=true)→Ke w I7 [] k ds vs Jg→Ke w Jo [] k ds vs Jg
 | [],k,vs,Jg,_,h=>by cases vs<;>simp_all [Ke]
 | d::ds,k,vs,Jg,hf,h=>by
  cases vs with
  | nil=>simp[Ke]at h
  | cons v vs=>
   simp only[Ke,Jw,Ni,if_false]at h ⊢
   exact⟨h.1.flat (hf d (by simp)),qD (λd hd=>hf d (by simp[hd])) h.2⟩
theorem uU{t:Ty}(hf:cB F t=true){l:List (ET F t)}:∀d∈cells F t l,d.flat=true:=by intro d hd;simp only[cells,List.mem_flatten,Oz]at hd;obtain⟨_,⟨x,_,rfl⟩,hd⟩:=hd;exact oL hf x d hd
theorem w9{I7 Jo:Nat→Prop}{t:Ty}{l:List (ET F t)}{pl:Pl}(hf:cB F t=true)(hm:t.KX=false)(h:LX w I7 t l pl):LX w Jo t l pl:=by
 rw[dF hm]at h ⊢
 cases pl with
 | none=>exact h
 | some q=>obtain⟨q1,q2,q3,cur,e,q4,q5,q6⟩:=h;exact⟨q1,q2,q3,cur,e,q4,q5,λk d z a b=>(q6 k d z a b).flat (uU hf d (Rq a))⟩
theorem oH{I7 Jo:Nat→Prop}{ow:List Nat}:∀{ts:List Ty}{a:Js F ts}{k:Nat}{vs:List Value} {Jg:List Pl},sW F ow k ts=true→Ke w I7 ow k (LV F ts a) vs Jg→Ke w Jo ow k (LV F ts a) vs Jg
 | [],a,k,vs,Jg,_,h=>by cases vs<;>simp_all [LV,Ke]
 | t::ts,a,k,vs,Jg,hf,h=>by
  simp only[sW,KV]at hf
  cases vs with
  | nil=>simp[LV,Ke]at h
  | cons v vs=>
   simp only[LV,Ke]at h ⊢
   cases t with
   | slice e=>
    simp only[KV]at hf;rw[if_pos hf.1.1.1]at h ⊢;simp only[enc1]at h ⊢;obtain⟨pl,rest,k1,k2,k3,k4⟩:=h
    exact⟨pl,rest,k1,w9 hf.1.1.2 (by simpa using hf.1.2) k2,k3,oH hf.2 k4⟩
   | st n=>simp at hf
   | int kk=>
    simp only[enc1]at h ⊢;split at h
    ·exact h.elim
    ·split at h
     ·exact h.elim
     ·rename_i h1 h2;rw[if_neg h1,if_neg h2];exact⟨h.1.flat rfl,oH hf.2 h.2⟩
   | bool=>
    simp only[enc1]at h ⊢;split at h
    ·exact h.elim
    ·split at h
     ·exact h.elim
     ·rename_i h1 h2;rw[if_neg h1,if_neg h2];exact⟨h.1.flat rfl,oH hf.2 h.2⟩
   | str=>
    simp only[enc1]at h ⊢;split at h
    ·exact h.elim
    ·split at h
     ·exact h.elim
     ·rename_i h1 h2;rw[if_neg h1,if_neg h2];exact⟨h.1.flat rfl,oH hf.2 h.2⟩
theorem wN{I7 Jo:Nat→Prop}{k:Kd}(hf:k.KI F=true){x:k.El F}{v:Value}{Jg:List Pl}{Jv:List Pl}(h:Held P w I7 k x v Jg Jv):Held P w Jo k x v Jg Jv:=by
 cases k with
 | box=>simp[Kd.KI]at hf
 | rp=>simp[Kd.KI]at hf
 | fn=>simp[Kd.KI]at hf
 | row=>simp[Kd.KI]at hf
 | O1=>simp[Kd.KI]at hf
 | pk=>simp[Kd.KI]at hf
 | ln=>simp[Kd.KI]at hf
 | nb=>simp[Kd.KI]at hf
 | cl=>simp[Kd.KI]at hf
 | v t ow=>
  obtain⟨h1,h2⟩:=h;refine⟨?_,h2⟩
  cases ow with
  | nil=>
   simp only[Kd.KI]at hf;unfold KG at h1 ⊢;split
   ·rename_i hs;rw[if_pos hs]at h1;obtain⟨vs,k1,k2⟩:=h1;exact⟨vs,k1,qD (oL hf x) k2⟩
   ·rename_i hs;rw[if_neg hs]at h1;exact qD (oL hf x) h1
  | cons y ow=>
   cases t with
   | slice t=>
    simp only[Kd.KI,KV]at hf;unfold KG at h1 ⊢;simp only[Ty.K9,Ni,if_false,Jj,Ke,hf.1.1,if_true]at h1 ⊢;obtain⟨pl,rest,k1,k2,k3,k4⟩:=h1
    exact⟨pl,rest,k1,w9 hf.1.2 (by simpa using hf.2) k2,k3,k4⟩
   | int=>simp[Kd.KI]at hf
   | bool=>simp[Kd.KI]at hf
   | str=>simp[Kd.KI]at hf
   | st n=>simp only[Kd.KI,KV]at hf;unfold KG at h1 ⊢;simp only[Ty.K9,if_true]at h1 ⊢;obtain⟨vs,k1,k2⟩:=h1;exact⟨vs,k1,oH hf.2 k2⟩
theorem rP{I7 Jo:Nat→Prop}:∀{ks:List Kd}{a:TL F ks}{vs:List Value}{Jv:List Pl} {Jg:List Pl},ks.all (Kd.KI F)=true→bF P w I7 ks a vs Jv Jg→bF P w Jo ks a vs Jv Jg
 | [],a,vs,Jv,Jg,hf,h=>h
 | [.box t ow],a,vs,Jv,Jg,hf,h=>by simp[Kd.KI]at hf
 | [.v t ow],a,vs,Jv,Jg,hf,h=>by simp only[TB,List.all_nil,Bool.and_true]at hf;obtain⟨v,h1,h2,h3⟩:=h;exact⟨v,h1,h2,wN hf h3⟩
 | [.rp t],a,vs,Jv,Jg,hf,h=>by simp[Kd.KI]at hf
 | [.fn t r],a,vs,Jv,Jg,hf,h=>by simp[Kd.KI]at hf
 | [.O1 t],a,vs,Jv,Jg,hf,h=>by simp[Kd.KI]at hf
 | [.pk k0 t],a,vs,Jv,Jg,hf,h=>by simp[Kd.KI]at hf
 | [.ln t],a,vs,Jv,Jg,hf,h=>by simp[Kd.KI]at hf
 | [.nb t ow],a,vs,Jv,Jg,hf,h=>by simp[Kd.KI]at hf
 | [.row t r],a,vs,Jv,Jg,hf,h=>by simp[Kd.KI]at hf
 | [.cl f n],a,vs,Jv,Jg,hf,h=>by simp[Kd.KI]at hf
 | .cl f n::l::ks,a,vs,Jv,Jg,hf,h=>by simp[Kd.KI]at hf
 | .box t ow::l::ks,a,vs,Jv,Jg,hf,h=>by simp[Kd.KI]at hf
 | .v t ow::l::ks,a,vs,Jv,Jg,hf,h=>by
  simp only[TB,KV]at hf;obtain⟨v,vs',p1,p2,h1,h2,h3,h4⟩:=h
  exact⟨v,vs',p1,p2,h1,h2,wN hf.1 h3,rP (by simpa using hf.2) h4⟩
 | .rp t::l::ks,a,vs,Jv,Jg,hf,h=>by simp[Kd.KI]at hf
 | .fn t r::l::ks,a,vs,Jv,Jg,hf,h=>by simp[Kd.KI]at hf
 | .O1 t::l::ks,a,vs,Jv,Jg,hf,h=>by simp[Kd.KI]at hf
 | .pk k0 t::l::ks,a,vs,Jv,Jg,hf,h=>by simp[Kd.KI]at hf
 | .ln t::l::ks,a,vs,Jv,Jg,hf,h=>by simp[Kd.KI]at hf
 | .nb t ow::l::ks,a,vs,Jv,Jg,hf,h=>by simp[Kd.KI]at hf
 | .row t r::l::ks,a,vs,Jv,Jg,hf,h=>by simp[Kd.KI]at hf
end
set_option linter.unusedVariables false
set_option linter.unusedSimpArgs false
section
variable{F:Fam}{P:Program}{own:Ow}{g g1:G}{w:World}{m m1 mm:Nat→Option (J8 F)}{Γ : Ctx F}{o:Oper}{a:Act}{c:Nat}
theorem eC:∀{l:List Nat},cv l=true→l.Nodup
 | [],_=>Zz
 | x::l,h=>by
  simp only[cv,KV,Rp]at h;refine PI.2 ⟨λhx=>?_,eC h.2⟩;rw[aK.2 hx]at h
  exact absurd h.1 (by simp)
theorem jN:∀{l r:List Nat},NI l r=true→∀x∈l,x∉r
 | [],r,_,x,hx=>by simp at hx
 | y::l,r,h,x,hx=>by
  simp only[NI,KV,Rp]at h;rcases Lr.1 hx with rfl | hx
  ·intro hr;rw[aK.2 hr]at h
   exact absurd h.1 (by simp)
  ·exact jN h.2 x hx
theorem dn{id:Nat}:∀{l:List (Option Nat)},id∈Km l↔some id∈l
 | []=>by simp[Km]
 | some x::l=>by simp[Km,dn]
 | none::l=>by simp[Km,dn]
theorem G.blk_iff{g:G}{id b:Nat}{b0:Nat}{c:Nat×Nat×NS}(h:g.ids id=some (some (b0,c))):g.blk id b↔b∈b0::Kr c.2.2:=by
 constructor
 ·rintro⟨b1,c1,h1,h2⟩;rw[h]at h1;cases h1;exact h2
 ·exactλhb=>⟨b0,c,h,hb⟩
theorem G.Xx{g:G}{id b:Nat}(h:g.ids id=none):¬ g.blk id b:=by rintro⟨b1,c1,h1,_⟩;rw[h]at h1;cases h1
theorem bC{b:Nat}:∀{os:List (Option Nat)},b∈I5 (os.map (Kc g))↔∃id,some id∈os∧g.blk id b
 | []=>by simp[I5]
 | none::os=>by simp[I5,Kc,bC]
 | some i::os=>by
  simp only[K7,Lr,K3]
  cases hi:g.ids i with
  | none=>
   simp only[Kc,hi,Option.getD_none,I5,bC];constructor
   ·rintro⟨id,h,k⟩;exact⟨id,.inr h,k⟩
   ·rintro⟨id,rfl | h,k⟩
    ·exact(G.Xx hi k).elim
    ·exact⟨id,h,k⟩
  | some q=>
   cases q with
   | none=>
    simp only[Kc,hi,Ta,I5,bC];constructor
    ·rintro⟨id,h,k⟩;exact⟨id,.inr h,k⟩
    ·rintro⟨id,rfl | h,k⟩
     ·exact(G.RG hi k).elim
     ·exact⟨id,h,k⟩
   | some q=>
    obtain⟨b',x⟩:=q;simp only[Kc,hi,Ta,I5];rw[← SS,Mr,bC];constructor
    ·rintro(h | ⟨id,h,k⟩)
     ·exact⟨i,.inl rfl,(G.blk_iff hi).2 h⟩
     ·exact⟨id,.inr h,k⟩
    ·rintro⟨id,rfl | h,k⟩
     ·exact .inl ((G.blk_iff hi).1 k)
     ·exact .inr ⟨id,h,k⟩
theorem fg(hm:Jl own g w m):∀{os:List (Option Nat)},(Km os).Nodup→(∀id,some id∈os→∃B,m id=some B∧B.owned=true)→(I5 (os.map (Kc g))).Nodup
 | [],_,_=>by simp[I5]
 | none::os,h,k=>by
  simp only[K7,Kc,I5]
  exact fg hm h (λid hid=>k id (by simp[hid]))
 | some i::os,h,k=>by
  simp only[Km,PI]at h
  have ih:=fg hm h.2 (λid hid=>k id (by simp[hid]))
  simp only[K7]
  cases hp:Kc g (some i)with
  | none=>simpa[I5]using ih
  | some q=>
   obtain⟨b,x⟩:=q
   have hi:g.ids i=some (some (b,x)):=by
    simp only[Kc]at hp
    cases hg:g.ids i with
    | none=>rw[hg]at hp;cases hp
    | some q=>rw[hg]at hp;simp only[Ta]at hp;subst hp;rfl
   obtain⟨B,k1,k2⟩:=k i (by simp)
   simp only[I5];rw[← SS,WI];refine⟨?_,ih,?_⟩
   ·have hok:=hm.ok i B k1
    cases B with
    | box cs=>obtain⟨b',c',_,_,h1,_⟩:=hok;rw[hi]at h1;cases h1;simp[Kr]
    | row t l=>rcases hok with⟨h1,_⟩ | ⟨b',cap,cur,e,h1,_⟩<;>(rw[hi]at h1;cases h1);simp[Kr]
    | KR t l=>obtain⟨pl,h1,h2⟩:=hok;rw[hi]at h1;cases h1;exact h2.2.2.2.2.1
    | OG t l=>cases k2
    | WC cs=>cases k2
    | mp t l=>obtain⟨b',h1,_⟩:=hok;rw[hi]at h1;cases h1;simp[Kr]
    | it ob=>obtain⟨b',h1,_⟩:=hok;rw[hi]at h1;cases h1;simp[Kr]
    | MJ k n=>cases k2
    | Oa t l i ks=>obtain⟨pl,h1,h2⟩:=hok;rw[hi]at h1;cases h1;exact h2.2.2.2.2.1
    | La t l j=>obtain⟨pl,h1,h2⟩:=hok;rw[hi]at h1;cases h1;exact h2.2.2.2.2.1
   ·rintro b1 hb1 b2 hb2 rfl;obtain⟨id,h1,h2⟩:=bC.1 hb2
    obtain⟨B',k3,k4⟩:=k id (by simp[h1])
    have:=hm.OB i id B B' b1 k1 k3 k2 k4 ((G.blk_iff hi).2 hb1) h2;subst this;exact h.1 (dn.2 h1)
theorem KQ.named{id:Nat}{B:J8 F}(h:KQ g w id B):g.ids id≠none:=by
 intro hn
 cases B with
 | box cs=>obtain⟨b,c,_,_,h,_⟩:=h;rw[hn]at h;cases h
 | row t l=>rcases h with⟨h,_⟩ | ⟨_,_,_,_,h,_⟩<;>(rw[hn]at h;cases h)
 | KR t l=>obtain⟨pl,h,_⟩:=h;rw[hn]at h;cases h
 | OG t l=>rcases h with⟨h,_⟩ | ⟨_,_,_,h,_⟩<;>(rw[hn]at h;cases h)
 | WC cs=>obtain⟨_,_,h,_⟩:=h;rw[hn]at h;cases h
 | mp t l=>obtain⟨_,h,_⟩:=h;rw[hn]at h;cases h
 | it ob=>obtain⟨_,h,_⟩:=h;rw[hn]at h;cases h
 | MJ k n=>rcases h with⟨_,_,_,_,h,_⟩ | ⟨h,_⟩<;>(rw[hn]at h;cases h)
 | Oa t l i ks=>obtain⟨pl,h,_⟩:=h;rw[hn]at h;cases h
 | La t l j=>obtain⟨pl,h,_⟩:=h;rw[hn]at h;cases h
theorem vj{x:Nat}:∀{l:List Nat}{m:Nat→Option (J8 F)},x∈l→Ki m (nones l) x=none:=by
 intro l
 have key:∀(l:List Nat)(m:Nat→Option (J8 F)),m x=none→Ki m (nones l) x=none:=by
  intro l
  induction l with
  | nil=>intro m h;exact h
  | cons y l ih=>
   intro m h;simp only[nones,K7,Ki];refine ih _ ?_
   split<;>first | rfl | exact h
 induction l with
 | nil=>intro m h;simp at h
 | cons y l ih=>
  intro m h;simp only[nones,K7,Ki];rcases Lr.1 h with rfl | h
  ·exact key l _ (by simp)
  ·exact ih h
theorem sw{x:Nat}{B:J8 F}:∀{bs:List (Nat×J8 F)} {m:Nat→Option (J8 F)},Ki m (blks bs) x=some B→(x,B)∈bs∨(x∉bs.map (·.1)∧m x=some B)
 | [],m,h=>.inr ⟨by simp,h⟩
 | (y,C)::bs,m,h=>by
  simp only[blks,K7,Ki]at h;rcases sw (bs:=bs) h with h | ⟨h1,h2⟩
  ·exact .inl (by simp[h])
  ·by_cases hxy:y=x
   ·subst hxy;simp only[ba,if_true,K3]at h2;subst h2
    exact .inl (by simp)
   ·rw[aj hxy]at h2;simp only[Ni,if_false]at h2
    exact .inr ⟨by simp only[K7,Lr,not_or];exact⟨λe=>hxy e.symm,h1⟩,h2⟩
def G.back(g:G)(c:Nat)(Jg:List Pl)(I:Nat→Prop):G:=⟨λx=>if c≤x∧x<c+Jg.length then Jg[x - c]? else g.ids x,I,g.len⟩
theorem sJ{Jg:List Pl}{I:Nat→Prop}:MG (g.back c Jg I) c Jg:=by
 intro j pl hj;have hlt:=(I0.1 hj).1;simp only[G.back]
 rw[if_pos ⟨by omega,by omega⟩,W9]
 exact hj
theorem cA{Jg:List Pl}{I:Nat→Prop}{x:Nat}(h:¬ (c≤x∧x<c+Jg.length)):(g.back c Jg I).ids x=g.ids x:=by simp only[G.back];rw[if_neg h]
theorem AW{ds:List (Dat F)}{vs:List Value}(h:Kq P g w ds vs):J4 P g w (Tc ds) (PK vs):=by
 match ds,vs,h with
 | [d],[v],h=>exact KY h
 | [],[],h=>exact .MI rfl (by simp)
 | d::e::ds,v::x::vs,h=>exact .MI h.1 h.2
 | [],v::vs,h=>exact absurd h.1 (by simp)
 | [d],[],h=>exact absurd h.1 (by simp)
 | [d],v::x::vs,h=>exact absurd h.1 (by simp)
 | d::e::ds,[],h=>exact absurd h.1 (by simp)
 | d::e::ds,[v],h=>exact absurd h.1 (by simp)
theorem jc{bx:List Nat}{Jv:List Pl}(h:bx.map g.ids=Jv.map some){id:Nat}(hi:id∈bx):∃q∈Jv,g.ids id=some q:=by
 have:g.ids id∈Jv.map some:=by rw[← h];exact ZE hi
 obtain⟨q,h1,h2⟩:=Oz.1 this;exact⟨q,h1,h2.symm⟩
theorem qO{b b0:Nat}{q:Nat×Nat×NS}{Jg:List Pl}(h:some (b0,q)∈Jg)(hb:b∈b0::Kr q.2.2):b∈I5 Jg:=by obtain⟨j,hj⟩:=RL h;exact bQ.2 ⟨j,b0,q,hj,hb⟩
theorem qM(hm:Jl own g w m)(hm1:Jl own g1 w m1)(XE:g1.ids=g.ids)(h1l:g1.len=g.len)(hall:∀b,w.heap.size≤b→own.o b)
  {os:List (Option Nat)} {bx:List Nat} {Jv:List Pl} {Kg:List Pl} {bs:List (Nat×J8 F)} {PU Jo I:Nat→Prop} {w':World} {UZ:List Pl} (anH:UZ=os.map (Kc g))
  (hfr:∀k,k<Kg.length→g.ids (c+k)=none)
  (hos:∀id,some id∈os→∃B,m id=some B∧m1 id=some B∧B.owned=true) (hbx:∀id∈bx,some id∈os) (Pf:bx.map g.ids=Jv.map some)
  (hp:Od w PU (I5 UZ)) (h0:∀b,g1.I7 b→PU b)
  (hsz:w.heap.size≤w'.heap.size) (Nz:∀b,b<w.heap.size→b∉I5 UZ→w'.heap[b]? = w.heap[b]?)
  (i1:∀b,g1.I7 b→I b) (i2:∀b,I b→Jo b) (i3:∀b,I b→g1.I7 b∨b∈I5 UZ∨w.heap.size≤b) (i4:∀b,Jo b→b<w'.heap.size)
  (hp':Od w' Jo (I5 Jv++I5 Kg)) (hin:∀b∈I5 Jv++I5 Kg,b∈I5 UZ∨w.heap.size≤b)
  (hbs:Oo (g.back c Kg I) w' c Kg.length bx bs):Jl own (g.back c Kg I) w' (Ki m1 (nones (Km os)++blks bs)):=by
 subst anH
 have hno:∀{b:Nat},b∈I5 (os.map (Kc g))→∃id B,some id∈os∧g.blk id b∧m id=some B∧m1 id=some B∧B.owned=true:=by intro b hb;obtain⟨id,h1,h2⟩:=bC.1 hb;obtain⟨B,k1,k2,k3⟩:=hos id h1;exact⟨id,B,h1,h2,k1,k2,k3⟩
 have hkeys:∀id,id∈bs.map (·.1)→(c≤id∧id<c+Kg.length)∨id∈bx:=by
  intro id hid;obtain⟨p,hp,rfl⟩:=Oz.1 hid;obtain⟨_,_,⟨j,k1,k2⟩ | k⟩:=hbs p hp
  ·exact .inl ⟨by omega,by omega⟩
  ·exact .inr k
 have hout:∀{id:Nat},g.ids id≠none→¬ (c≤id∧id<c+Kg.length):=by
  intro id h hc
  exact h (by have:=hfr (id - c) (by omega);rwa [QdO hc.1]at this)
 have hsame:∀id,¬ (id∈Km os∨(c≤id∧id<c+Kg.length))→∀B,Ki m1 (nones (Km os)++blks bs) id=some B→m1 id=some B:=by
  intro id hid B hB;rw[cu]at hB
  ·exact hB
  ·intro hk;simp only[SQ,Mr]at hk;rcases hk with hk | hk
   ·simp only[nones,List.map_map,Oz,Function.comp]at hk;obtain⟨x,h1,h2⟩:=hk;subst h2;exact hid (.inl h1)
   ·have:id∈bs.map (·.1):=by simpa[blks,Function.comp_def]using hk
    rcases hkeys id this with h | h
    ·exact hid (.inr h)
    ·exact hid (.inl (dn.2 (hbx id h)))
 have hnotin:∀{id:Nat}{B:J8 F}{b:Nat},id∉Km os→m1 id=some B→B.owned=true→g.blk id b→b∉I5 (os.map (Kc g))∧b<w.heap.size:=by
  intro id B b hid hB ho hb
  have hb1:g1.blk id b:=by obtain⟨b0,q,hq,hbb⟩:=hb;exact⟨b0,q,by rw[XE];exact hq,hbb⟩
  refine⟨λhin=>?_,(hm1.ok id B hB).place hm1.I7 (J8.MX ho) hb1⟩;obtain⟨id',B',k1,k2,k3,k4,k5⟩:=hno hin
  have hb2:g1.blk id' b:=by obtain⟨b0,q,hq,hbb⟩:=k2;exact⟨b0,q,by rw[XE];exact hq,hbb⟩
  have:=hm1.OB id id' B B' b hB k4 ho k5 hb1 hb2;subst this;exact hid (dn.2 k1)
 have hblk:∀{id b:Nat},¬ (c≤id∧id<c+Kg.length)→(g.back c Kg I).blk id b→g.blk id b:=by rintro id b h ⟨b0,q,hq,hbb⟩;rw[cA h]at hq;exact⟨b0,q,hq,hbb⟩
 refine hm1.Mv (S:=λid=>id∈Km os∨(c≤id∧id<c+Kg.length)) ⟨?_,i1,?_,λb hb=>(show g.len b by rw[← h1l];exact hb),λb hb=>Nz b (hm1.len b hb).2 (λhin=>by obtain⟨id,B,_,q2,q3,_,q5⟩:=hno hin;exact(hm1.len b hb).1 (hm.own id B b q3 q5 q2).1)⟩ hsame ?_ ?_ ?_ (λb hb=>i4 b (i2 b hb)) ?_ (λb hb=>⟨(hm.len b hb).1,O8 (hm.len b hb).2 hsz⟩)
 ·intro id r hr;rw[XE]at hr
  rw[cA (hout (by rw[hr];simp))]
  exact hr
 ·intro b hb;exact Nz b (hm1.I7 b hb) (λhin=>hp.I7 b hin (h0 b hb))
 ·intro id hid;rw[cA (λh=>hid (.inr h)),XE]
 ·intro id B b hid hB ho hb
  have hb':g.blk id b:=by obtain⟨b0,q,hq,hbb⟩:=hb;exact⟨b0,q,by rw[← XE];exact hq,hbb⟩
  obtain⟨k1,k2⟩:=hnotin (λh=>hid (.inl h)) hB ho hb';refine⟨Nz b k2 k1,λhI=>?_⟩;rcases i3 b hI with h | h | h
  ·exact(hm1.own id B b hB ho hb).2 h
  ·exact k1 h
  ·omega
 ·intro id B hid hB
  have hmem:(id,B)∈bs:=by
   rw[dC]at hB;rcases sw hB with h | ⟨h1,h2⟩
   ·exact h
   ·exfalso;by_cases XC:id∈Km os
    ·rw[vj XC]at h2;cases h2
    ·rcases hid with h | h
     ·exact XC h
     ·rw[cu]at h2
      ·refine(hm1.ok id B h2).named ?_;rw[XE]
       have:=hfr (id - c) (by omega)
       rwa [QdO h.1]at this
      ·simpa[nones,Function.comp_def]using XC
  obtain⟨ho,hok,hwh⟩:=hbs _ hmem;refine⟨hok,λb _ hb=>?_⟩
  have loc:∀{x:Nat},((c≤x∧x<c+Kg.length)∨x∈bx)→(g.back c Kg I).blk x b→((c≤x∧x<c+Kg.length)∧∃b0 q,Kg[x - c]? = some (some (b0,q))∧b∈b0::Kr q.2.2)∨(x∈bx∧g.blk x b∧b∈I5 Jv):=by
   intro x hx hxb;by_cases hr:c≤x∧x<c+Kg.length
   ·obtain⟨b0,q,hq,hbb⟩:=hxb;simp only[G.back]at hq;rw[if_pos hr]at hq;exact .inl ⟨hr,b0,q,hq,hbb⟩
   ·have hxx:=hx.resolve_left hr;have hb':=hblk hr hxb;obtain⟨q,hq1,hq2⟩:=jc Pf hxx;obtain⟨b0,q',hq',hbb⟩:=hb';rw[hq2]at hq';cases hq';exact .inr ⟨hxx,⟨b0,_,hq2,hbb⟩,qO hq1 hbb⟩
  have ab8:(c≤id∧id<c+Kg.length)∨id∈bx:=by
   rcases hwh with⟨j,k1,k2⟩ | k
   ·exact .inl ⟨by simp only at k1;omega,by simp only at k1;omega⟩
   ·exact .inr k
  have hL:b∈I5 Jv++I5 Kg:=by
   rcases loc ab8 hb with⟨_,b0,q,hq,hbb⟩ | ⟨_,_,h⟩
   ·exact WK _ (bQ.2 ⟨_,b0,q,hq,hbb⟩)
   ·exact WJ _ h
  refine⟨?_,λhI=>hp'.I7 b hL (i2 b hI),?_⟩
  ·rcases hin b hL with h | h
   ·obtain⟨id',B',k1,k2,k3,k4,k5⟩:=hno h;exact(hm.own id' B' b k3 k5 k2).1
   ·exact hall b h
  ·intro id' B' hB' ho' hb';by_cases hs:id'∈Km os∨(c≤id'∧id'<c+Kg.length)
   ·have hmem':(c≤id'∧id'<c+Kg.length)∨id'∈bx:=by
     rw[dC]at hB';rcases sw hB' with h | ⟨h1,h2⟩
     ·exact hkeys id' (Oz.2 ⟨_,h,rfl⟩)
     ·by_cases XC:id'∈Km os
      ·rw[vj XC]at h2;cases h2
      ·exact .inl (hs.resolve_left XC)
    have hnd:=WI.1 hp'.nodup;rcases loc ab8 hb with⟨r1,c1,q1,e1,d1⟩ | ⟨r1,e1,f1⟩
    ·rcases loc hmem' hb' with⟨r2,c2,q2,e2,d2⟩ | ⟨r2,e2,f2⟩
     ·have:=iM hnd.2.1 e1 d1 e2 d2;omega
     ·exact absurd rfl (hnd.2.2 b f2 b (bQ.2 ⟨_,c1,q1,e1,d1⟩))
    ·rcases loc hmem' hb' with⟨r2,c2,q2,e2,d2⟩ | ⟨r2,e2,f2⟩
     ·exact absurd rfl (hnd.2.2 b f1 b (bQ.2 ⟨_,c2,q2,e2,d2⟩))
     ·obtain⟨B1,k1,_,k2⟩:=hos id (hbx id r1);obtain⟨B2,l1,_,l2⟩:=hos id' (hbx id' r2);exact(hm.OB id id' B1 B2 b k1 l1 k2 l2 e1 e2).symm
   ·exfalso;have hB0:=hsame id' hs B' hB';obtain⟨k1,k2⟩:=hnotin (λh=>hs (.inl h)) hB0 ho' (hblk (λh=>hs (.inr h)) hb');rcases hin b hL with h | h
    ·exact k1 h
    ·omega
 ·intro b hI;rcases i3 b hI with h | h | h
  ·exact hm1.io b h
  ·obtain⟨id',B',k1,k2,k3,k4,k5⟩:=hno h;exact .inr (hm.own id' B' b k3 k5 k2).1
  ·exact .inr (hall b h)
def G.RZ(c:Nat)(Jg:List Pl)(I:Nat→Prop):G:=⟨λx=>if c≤x then Jg[x - c]? else none,I,λ_=>False⟩
theorem vG{Jg:List Pl}{I:Nat→Prop}:MG (G.RZ c Jg I) c Jg:=by
 intro j pl hj;simp only[G.RZ]
 rw[if_pos (by omega),W9]
 exact hj
theorem zp{I:Nat→Prop}{ow:List Nat}{ds:List (ND F)}{k c:Nat}{vs:List Value}{Jg:List Pl}(h:Ke w I ow k ds vs Jg):(L9 ow k c ds).2.2=c+Jg.length:=
 (iy (g:=G.RZ c Jg I) h vG).2.2.2.1
theorem cw{I:Nat→Prop}{k:Kd}{x:k.El F}{v:Value}{Jg:List Pl}{Jv:List Pl}(h:Held P w I k x v Jg Jv):(Mt k x c).2.2=c+Jg.length:=
 (cg (g:=G.RZ c Jg I) h vG).2.2
theorem cH{I:Nat→Prop}:∀{ks:List Kd}{a:TL F ks}{vs:List Value}{Jv:List Pl} {Jg:List Pl} {bx:List Nat} {c:Nat},bF P w I ks a vs Jv Jg→bx.length=Jv.length→(ap ks a bx c).2.2=c+Jg.length
 | [],a,vs,Jv,Jg,bx,c,h,hb=>by obtain⟨rfl,rfl,rfl⟩:=h;rfl
 | [.box t ow],a,vs,Jv,Jg,bx,c,h,hb=>by
  obtain⟨b,rfl,rfl,arr,e,h1,h2⟩:=h
  match bx,hb with
  | i::bx,hb=>simp only[ap];exact zp h2
 | [.row t arr],a,vs,Jv,Jg,bx,c,h,hb=>by
  obtain⟨pl,rfl,rfl,_,rfl⟩:=h
  match bx,hb with
  | i::bx,hb=>rfl
 | .row t arr::l::ks,a,vs,Jv,Jg,bx,c,h,hb=>by
  obtain⟨pl,Nv,rfl,_,h2⟩:=h
  match bx,hb with
  | i::bx,hb=>
   simp only[ap]
   rw[cH h2 (by simpa using hb)]
 | [.v t ow],a,vs,Jv,Jg,bx,c,h,hb=>by obtain⟨v,rfl,rfl,h⟩:=h;simp only[ap];exact cw h
 | [.cl f n],a,vs,Jv,Jg,bx,c,h,hb=>by obtain⟨v,rfl,rfl,h⟩:=h;exact h.elim
 | .cl f n::l::ks,a,vs,Jv,Jg,bx,c,h,hb=>by obtain⟨v,vs',p1,p2,rfl,rfl,h1,h2⟩:=h;exact h1.elim
 | [.rp t],a,vs,Jv,Jg,bx,c,h,hb=>by obtain⟨v,rfl,rfl,h⟩:=h;simp only[ap];exact cw h
 | [.O1 t],a,vs,Jv,Jg,bx,c,h,hb=>by obtain⟨v,rfl,rfl,h⟩:=h;simp only[ap];exact cw h
 | [.pk k0 t],a,vs,Jv,Jg,bx,c,h,hb=>by obtain⟨v,rfl,rfl,h⟩:=h;simp only[ap];exact cw h
 | [.ln t],a,vs,Jv,Jg,bx,c,h,hb=>by obtain⟨v,rfl,rfl,h⟩:=h;simp only[ap];exact cw h
 | [.nb t ow],a,vs,Jv,Jg,bx,c,h,hb=>by obtain⟨v,rfl,rfl,h⟩:=h;simp only[ap];exact cw h
 | [.fn ks r],a,vs,Jv,Jg,bx,c,h,hb=>by obtain⟨v,rfl,rfl,h⟩:=h;simp only[ap];exact cw h
 | .box t ow::l::ks,a,vs,Jv,Jg,bx,c,h,hb=>by
  obtain⟨b,Nv,p1,p2,rfl,rfl,⟨arr,e,h0,h1⟩,h2⟩:=h
  match bx,hb with
  | i::bx,hb=>
   simp only[ap]
   rw[zp h1,cH h2 (by simpa using hb),I3];omega
 | .v t ow::l::ks,a,vs,Jv,Jg,bx,c,h,hb=>by obtain⟨v,vs',p1,p2,rfl,rfl,h1,h2⟩:=h;simp only[ap];rw[cw h1,cH h2 hb,I3];omega
 | .rp t::l::ks,a,vs,Jv,Jg,bx,c,h,hb=>by obtain⟨v,vs',p1,p2,rfl,rfl,h1,h2⟩:=h;simp only[ap];rw[cw h1,cH h2 hb,I3];omega
 | .O1 t::l::ks,a,vs,Jv,Jg,bx,c,h,hb=>by obtain⟨v,vs',p1,p2,rfl,rfl,h1,h2⟩:=h;simp only[ap];rw[cw h1,cH h2 hb,I3];omega
 | .pk k0 t::l::ks,a,vs,Jv,Jg,bx,c,h,hb=>by obtain⟨v,vs',p1,p2,rfl,rfl,h1,h2⟩:=h;simp only[ap];rw[cw h1,cH h2 hb,I3];omega
 | .ln t::l::ks,a,vs,Jv,Jg,bx,c,h,hb=>by obtain⟨v,vs',p1,p2,rfl,rfl,h1,h2⟩:=h;simp only[ap];rw[cw h1,cH h2 hb,I3];omega
 | .nb t ow::l::ks,a,vs,Jv,Jg,bx,c,h,hb=>by obtain⟨v,vs',p1,p2,rfl,rfl,h1,h2⟩:=h;simp only[ap];rw[cw h1,cH h2 hb,I3];omega
 | .fn ks' r::l::ks,a,vs,Jv,Jg,bx,c,h,hb=>by obtain⟨v,vs',p1,p2,rfl,rfl,h1,h2⟩:=h;simp only[ap];rw[cw h1,cH h2 hb,I3];omega
theorem w7(hm:Jl own g w m)(hm1:Jl own g1 w m1)(XE:g1.ids=g.ids)(h1l:g1.len=g.len)(hgi:∀b,g.I7 b→g1.I7 b)(hall:∀b,w.heap.size≤b→own.o b){u:Nat→Bool}(hd:∀id,u id=false→g.ids id=none)
  {os:List (Option Nat)} {bx:List Nat} {Jv:List Pl} {Kg:List Pl} {PU Jo I:Nat→Prop} {w':World} {M0:List Value} {ks:List Kd} {r:TL F ks}
  (hfr:∀k,k<(ap ks r bx c).2.2 - c→u (c+k)=false)
  (hos:∀id,some id∈os→∃B,m id=some B∧m1 id=some B∧B.owned=true) (hbx:∀id∈bx,some id∈os) (Pf:bx.map g.ids=Jv.map some)
  (hp:Od w PU (I5 (os.map (Kc g)))) (h0:∀b,g1.I7 b→PU b)
  (e1:w'.os=w.os) (e2:w'.tape=w.tape) (e3:w'.output=w.output) (e4:w.drawn≤w'.drawn)
  (hsz:w.heap.size≤w'.heap.size) (Nz:∀b,b<w.heap.size→b∉I5 (os.map (Kc g))→w'.heap[b]? = w.heap[b]?)
  (i1:∀b,g1.I7 b→I b) (i2:∀b,I b→Jo b) (i3:∀b,I b→g1.I7 b∨b∈I5 (os.map (Kc g))∨w.heap.size≤b) (i4:∀b,Jo b→b<w'.heap.size)
  (hp':Od w' Jo (I5 Jv++I5 Kg)) (hin:∀b∈I5 Jv++I5 Kg,b∈I5 (os.map (Kc g))∨w.heap.size≤b)
  (hout:bF P w' I ks r M0 Jv Kg) :
  ∃g',J4 P g' w' (Tc (ap ks r bx c).1) (PK M0)∧Jl own g' w' (Ki m1 (nones (Km os)++blks (ap ks r bx c).2.1))∧Stp m g w g' w'∧∀id,u id=false→(id<c∨c+((ap ks r bx c).2.2 - c)≤id)→g'.ids id=none:=by
 have hlen:bx.length=Jv.length:=by simpa using congrArg List.length Pf
 have hcnt:=cH (c:=c) hout hlen
 have Tn:∀k,k<Kg.length→g.ids (c+k)=none:=λk hk=>hd _ (hfr k (by rw[hcnt];omega))
 have hnot:∀{id:Nat},g.ids id≠none→¬ (c≤id∧id<c+Kg.length):=by
  intro id h hc
  exact h (by have:=Tn (id - c) (by omega);rwa [QdO hc.1]at this)
 have Wj:bx.map (g.back c Kg I).ids=Jv.map some:=by
  rw[← Pf];refine QdP λid hid=>?_;obtain⟨q,_,hq⟩:=jc Pf hid
  exact cA (hnot (by rw[hq];simp))
 obtain⟨k1,k2,k3⟩:=dm (g:=g.back c Kg I) (c:=c) (bx:=bx) hout sJ Wj
 refine⟨g.back c Kg I,AW k1,qM hm hm1 XE h1l hall rfl Tn hos hbx Pf hp h0 hsz Nz i1 i2 i3 i4 hp' hin k2,⟨⟨?_,λb hb=>i1 b (hgi b hb),?_,λ_ h=>h,λb hb=>Nz b (hm.len b hb).2 (λhin=>by obtain⟨id,h1,h2⟩:=bC.1 hin;obtain⟨B,l1,_,l2⟩:=hos id h1;exact(hm.len b hb).1 (hm.own id B b l1 l2 h2).1)⟩,e1,e2,e3,hsz,?_,e4⟩,?_⟩
 ·intro id q hq
  rw[cA (hnot (by rw[hq];simp))]
  exact hq
 ·intro b hb;exact Nz b (hm.I7 b hb) (λhin=>hp.I7 b hin (h0 b (hgi b hb)))
 ·intro b hb hno;refine Nz b hb (λhin=>?_);obtain⟨id,h1,h2⟩:=bC.1 hin;obtain⟨B,l1,_,l2⟩:=hos id h1;exact hno id B l1 l2 h2
 ·intro id hu hw
  rw[cA (by rw[hcnt]at hw;omega)]
  exact hd id hu
theorem Bm(hΓ : Kz P Γ)(hm:Jl own g w m)(hle:Na mm m){u:Nat→Bool}(hd:∀id,u id=false→g.ids id=none)(hall:∀b,w.heap.size≤b→own.o b)
  {f:FuncId} {args:List (Dat F)} {vs:List Value} (hr:Kq P g w args vs) {sp:Spec F} (hsp:look Γ f=some sp) {p:Pk (HL F sp.ks)} (hp:gM Γ mm sp.ks (cond ((outs sp).all (Kd.KI F)) (args.map R5) args)=some p)
  (hnd:cv (Km p.os)=true) (hdj:NI (Km p.os) p.fz=true) {r:TL F (outs sp)} (hD:sp.D p.x=some r)
  (hfr:∀k,k<(ap (outs sp) r p.bx c).2.2 - c→u (c+k)=false) (hrun:(execOp a.eval o).run P w = .ok (.enter f ⟨vs⟩) w) :
  M8 P own m u g w o a c { val:=Tc (ap (outs sp) r p.bx c).1,mw:=(if(outs sp).all (Kd.KI F)then[]else S9 mm p.fz)++nones (Km p.os)++blks (ap (outs sp) r p.bx c).2.1,nu:=(ap (outs sp) r p.bx c).2.2 - c }:=by
 have pre:∀{ZQ:Ow}{g2:G}(hm2:Jl ZQ g2 w m)(Lv:g2.ids=g.ids),Kq P g2 w (cond ((outs sp).all (Kd.KI F)) (args.map R5) args) vs→∃Jv,bR P w (g2.Nq p.fz).I7 sp.ks p.x vs (p.os.map (Kc g)) Jv∧p.bx.map g.ids=Jv.map some∧(∀id∈p.bx,some id∈p.os)∧
   (∀id,some id∈p.os→∃B,m id=some B∧B.owned=true)∧Jl ZQ (g2.Nq p.fz) w (Ki m (S9 mm p.fz))∧(∀id,some id∈p.os→∃B,m id=some B∧Ki m (S9 mm p.fz) id=some B∧B.owned=true)∧Od w (g2.Nq p.fz).I7 (I5 (p.os.map (Kc g))):=by
  intro ZQ g2 hm2 Lv hr2;have hfz:Pd g2 p.fz (g2.Nq p.fz).I7:=⟨λ_ h=>.inl h,λid hid b hb=>.inr ⟨id,hid,hb⟩⟩;obtain⟨Jv,k1,k2,k3,k4,k5⟩:=mc hΓ hm2 hle hp hfz hr2
  have hown:∀id,some id∈p.os→∃B,m id=some B∧B.owned=true:=λid hid=>by obtain⟨B,h1,h2⟩:=k4 id hid;exact⟨B,hle _ _ h1,h2⟩
  have PX:=freeze hm2 hle k3
  have hown1:∀id,some id∈p.os→∃B,m id=some B∧Ki m (S9 mm p.fz) id=some B∧B.owned=true:=λid hid=>by
   obtain⟨B,h1,h2⟩:=hown id hid
   exact⟨B,h1,by rw[gb,if_neg (jN hdj id (dn.2 hid))];exact h1,h2⟩
  have hpo:Kc g2=Kc g:=by
   funext o
   cases o with
   | none=>rfl
   | some i=>simp only[Kc,Lv]
  have hbk:∀id b,g2.blk id b↔g.blk id b:=λid b=>by unfold G.blk;rw[Lv]
  rw[hpo]at k1;rw[Lv]at k2;refine⟨Jv,k1,k2,k5,hown,PX,hown1,fg hm (eC hnd) hown,?_,?_⟩
  ·intro b hb hi;obtain⟨id,h1,h2⟩:=bC.1 hb;obtain⟨B,_,h3,h4⟩:=hown1 id h1;exact(PX.own id B b h3 h4 ((hbk id b).2 h2)).2 hi
  ·intro b hb;obtain⟨id,h1,h2⟩:=bC.1 hb;obtain⟨B,h3,h4⟩:=hown id h1;exact(hm.ok id B h3).place hm.I7 (J8.MX h4) h2
 obtain⟨hent,hfn⟩:=hΓ f sp hsp;intro next Q hn;unfold Oper.wp;rw[hrun]
 cases hfl:(outs sp).all (Kd.KI F)with
 | true=>
  rw[hfl]at pre;obtain⟨Jv,k1,k2,k5,hown,PX,hown1,hpl⟩:=pre hm.lf rfl (wJ hr);refine(hfn p.x r hD _ w vs _ Jv k1 hpl PX.I7).mono ?_;rintro e w' ⟨M0,Jo,Kg,rfl,e1,e2,e3,edr,e4,e5,e6,e7,e8,e9,e10,e11⟩
  obtain⟨g',q1,q2,q3,q4⟩:=w7 (I:=g.I7) hm hm rfl rfl (λ_ h=>h) hall hd hfr (λid hid=>by obtain⟨B,h1,h2⟩:=hown id hid;exact⟨B,h1,h1,h2⟩) k5 k2 hpl (λb h=>.inl (.inl h)) e1 e2 e3 edr e4 e5
   (λ_ h=>h) (λb h=>e6 b (.inl (.inl h))) (λb h=>.inl h) e8 e10 e11 (rP hfl e9)
  refine hn _ w' g' q1 ?_ q3 q4;simpa[hfl]using q2
 | false=>
  rw[hfl]at pre;obtain⟨Jv,k1,k2,k5,hown,PX,hown1,hpl⟩:=pre hm rfl hr;refine(hfn p.x r hD _ w vs _ Jv k1 hpl PX.I7).mono ?_;rintro e w' ⟨M0,Jo,Kg,rfl,e1,e2,e3,edr,e4,e5,e6,e7,e8,e9,e10,e11⟩;obtain⟨g',q1,q2,q3,q4⟩:=w7 (I:=Jo) hm PX rfl rfl (λb h=>.inl h) hall hd hfr hown1 k5 k2 hpl (λb h=>h) e1 e2 e3 edr e4 e5
   e6 (λb h=>h) e7 e8 e10 e11 e9
  refine hn _ w' g' q1 ?_ q3 q4;simp only[hfl,Ni,if_false,MK];rw[dC];exact q2
theorem A2{g:G}{I:Nat→Prop}{ks:List Nat}{c:Kv F}{v:Value}(h:Ka g w c v):Ka (F:=F) ⟨g.ids,I,g.len⟩ w (fgC ks c) v:=by
 cases c with
 | im d=>
  simp only[fgC]
  cases hd:d.flat with
  | true=>cases h with | im h=>exact .im (h.flat hd)
  | false=>exact .one (h.oneCell (by simp))
 | KU id=>
  simp only[fgC]
  cases hk:Jw id ks with
  | false=>exact .one (h.oneCell (by simp))
  | true=>
   cases h with
   | MR p h=>exact .MR p h
   | KU h hl hm=>exact .KU h hl hm
 | any=>exact .any
 | _=>exact .one (h.oneCell (by simp))
theorem F1{g:G}{I:Nat→Prop}{ks:List Nat}{d:Dat F}{v:Value}(h:J4 P g w d v):J4 P ⟨g.ids,I,g.len⟩ w (fgD ks d) v:=by
 cases h with
 | c h=>exact .c (A2 h)
 | agg hl h=>
  refine .agg (by rw[OD];exact hl) λk c x a b=>?_
  rw[MU]at a;obtain⟨c0,h0,rfl⟩:=RN.1 a;exact A2 (h k c0 x h0 b)
 | _=>exact .c .any
theorem DT{g:G}{I:Nat→Prop}{ks:List Nat}{ds:List (Dat F)}{vs:List Value}(h:Kq P g w ds vs):Kq P ⟨g.ids,I,g.len⟩ w (ds.map (fgD ks)) vs:=by
 refine⟨by rw[OD];exact h.1,λk d x a b=>?_⟩
 rw[MU]at a;obtain⟨c0,h0,rfl⟩:=RN.1 a;exact F1 (h.2 k c0 x h0 b)
theorem Ff{g:G}{I:Nat→Prop}{c n:Nat}{bx:List Nat}{bs:List (Nat×J8 F)}(h:Oo g w c n bx bs):Oo ⟨g.ids,I,g.len⟩ w c n bx (bs.filter U4):=by
 intro p hp;obtain⟨h1,h2⟩:=WX.1 hp;obtain⟨k1,k2,k3⟩:=h p h1;refine⟨k1,?_,k3⟩;obtain⟨id,B⟩:=p
 cases B with
 | row t l=>
  simp only[U4]at h2;rcases k2 with k2 | ⟨b,cap,cur,e,q1,q2,q3,q4,q5,q6⟩
  ·exact .inl k2
  ·exact .inr ⟨b,cap,cur,e,q1,q2,q3,q4,q5,λk d x a b=>(q6 k d x a b).flat (uU h2 d (Rq a))⟩
 | _=>simp[U4]at h2
theorem BQ(hm:Jl own g w m)(hall:∀b,w.heap.size≤b→own.o b){u:Nat→Bool}(hd:∀id,u id=false→g.ids id=none)
  {os:List (Option Nat)} {bx:List Nat} {Jv:List Pl} {Kg:List Pl} {PU Jo:Nat→Prop} {w':World} {M0:List Value} {ks:List Kd} {r:TL F ks}
  (hfr:∀k,k<(ap ks r bx c).2.2 - c→u (c+k)=false)
  (hos:∀id,some id∈os→∃B,m id=some B∧B.owned=true) (hbx:∀id∈bx,some id∈os) (Pf:bx.map g.ids=Jv.map some)
  (hp:Od w PU (I5 (os.map (Kc g)))) (h0:∀b,g.I7 b→PU b)
  (e1:w'.os=w.os) (e2:w'.tape=w.tape) (e3:w'.output=w.output) (e4:w.drawn≤w'.drawn)
  (hsz:w.heap.size≤w'.heap.size) (Nz:∀b,b<w.heap.size→b∉I5 (os.map (Kc g))→w'.heap[b]? = w.heap[b]?)
  (i2:∀b,g.I7 b→Jo b) (i4:∀b,Jo b→b<w'.heap.size)
  (hp':Od w' Jo (I5 Jv++I5 Kg)) (hin:∀b∈I5 Jv++I5 Kg,b∈I5 (os.map (Kc g))∨w.heap.size≤b)
  (hout:bF P w' Jo ks r M0 Jv Kg) :
  ∃g',J4 P g' w' (Tc ((ap ks r bx c).1.map (fgD (((ap ks r bx c).2.1.filter U4).map (·.1))))) (PK M0)∧Jl own g' w' (Ki m (nones (Km os)++blks ((ap ks r bx c).2.1.filter U4)))∧Stp m g w g' w'∧∀id,u id=false→(id<c∨c+((ap ks r bx c).2.2 - c)≤id)→g'.ids id=none:=by
 have hlen:bx.length=Jv.length:=by simpa using congrArg List.length Pf
 have hcnt:=cH (c:=c) hout hlen
 have Tn:∀k,k<Kg.length→g.ids (c+k)=none:=λk hk=>hd _ (hfr k (by rw[hcnt];omega))
 have hnot:∀{id:Nat},g.ids id≠none→¬ (c≤id∧id<c+Kg.length):=by
  intro id h hc
  exact h (by have:=Tn (id - c) (by omega);rwa [QdO hc.1]at this)
 have Wj:bx.map (g.back c Kg Jo).ids=Jv.map some:=by
  rw[← Pf];refine QdP λid hid=>?_;obtain⟨q,_,hq⟩:=jc Pf hid
  exact cA (hnot (by rw[hq];simp))
 obtain⟨k1,k2,k3⟩:=dm (g:=g.back c Kg Jo) (c:=c) (bx:=bx) hout sJ Wj;have k1':Kq P (g.back c Kg g.I7) w' ((ap ks r bx c).1.map (fgD (((ap ks r bx c).2.1.filter U4).map (·.1)))) M0:=DT k1;have k2':Oo (g.back c Kg g.I7) w' c Kg.length bx ((ap ks r bx c).2.1.filter U4):=Ff k2
 refine⟨g.back c Kg g.I7,AW k1',qM hm hm rfl rfl hall rfl Tn (λid hid=>by obtain⟨B,h1,h2⟩:=hos id hid;exact⟨B,h1,h1,h2⟩) hbx Pf hp h0 hsz Nz (λ_ h=>h) i2 (λb h=>.inl h) i4 hp' hin k2',⟨⟨?_,λb hb=>hb,?_,λ_ h=>h,λb hb=>Nz b (hm.len b hb).2 (λhin=>by obtain⟨id,h1,h2⟩:=bC.1 hin;obtain⟨B,l1,l2⟩:=hos id h1;exact(hm.len b hb).1 (hm.own id B b l1 l2 h2).1)⟩,e1,e2,e3,hsz,?_,e4⟩,?_⟩
 ·intro id q hq
  rw[cA (hnot (by rw[hq];simp))]
  exact hq
 ·intro b hb;exact Nz b (hm.I7 b hb) (λhin=>hp.I7 b hin (h0 b hb))
 ·intro b hb hno;refine Nz b hb (λhin=>?_);obtain⟨id,h1,h2⟩:=bC.1 hin;obtain⟨B,l1,l2⟩:=hos id h1;exact hno id B l1 l2 h2
 ·intro id hu hw
  rw[cA (by rw[hcnt]at hw;omega)]
  exact hd id hu
theorem BD(hΓ : Kz P Γ)(hm:Jl own g w m)(hle:Na mm m){u:Nat→Bool}(hd:∀id,u id=false→g.ids id=none)(hall:∀b,w.heap.size≤b→own.o b)
  {f:FuncId} {args:List (Dat F)} {vs:List Value} (hr:Kq P g w args vs) {sp:Spec F} (hsp:look Γ f=some sp) {p:Pk (HL F sp.ks)} (hp:gM Γ mm sp.ks (args.map R5)=some p)
  (hnd:cv (Km p.os)=true) (hdj:NI (Km p.os) p.fz=true) {r:TL F (outs sp)} (hD:sp.D p.x=some r)
  (hfr:∀k,k<(ap (outs sp) r p.bx c).2.2 - c→u (c+k)=false) (hrun:(execOp a.eval o).run P w = .ok (.enter f ⟨vs⟩) w) :
  M8 P own m u g w o a c { val:=Tc ((ap (outs sp) r p.bx c).1.map (fgD (((ap (outs sp) r p.bx c).2.1.filter U4).map (·.1)))),mw:=nones (Km p.os)++blks ((ap (outs sp) r p.bx c).2.1.filter U4),nu:=(ap (outs sp) r p.bx c).2.2 - c }:=by
 have hm2:=hm.lf;have hr2:=wJ hr;have hfz:Pd g.lf p.fz (g.lf.Nq p.fz).I7:=⟨λ_ h=>.inl h,λid hid b hb=>.inr ⟨id,hid,hb⟩⟩;obtain⟨Jv,k1,k2,k3,k4,k5⟩:=mc hΓ hm2 hle hp hfz hr2
 have hown:∀id,some id∈p.os→∃B,m id=some B∧B.owned=true:=λid hid=>by obtain⟨B,h1,h2⟩:=k4 id hid;exact⟨B,hle _ _ h1,h2⟩
 have PX:=freeze hm2 hle k3
 have hpo:Kc g.lf=Kc g:=by
  funext o
  cases o with
  | none=>rfl
  | some i=>rfl
 rw[hpo]at k1
 have hpl:Od w (g.lf.Nq p.fz).I7 (I5 (p.os.map (Kc g))):=by
  refine⟨fg hm (eC hnd) hown,?_,?_⟩
  ·intro b hb hi;obtain⟨id,h1,h2⟩:=bC.1 hb;obtain⟨B,h3,h4⟩:=hown id h1
   have h3':Ki m (S9 mm p.fz) id=some B:=by rw[gb,if_neg (jN hdj id (dn.2 h1))];exact h3
   exact(PX.own id B b h3' h4 h2).2 hi
  ·intro b hb;obtain⟨id,h1,h2⟩:=bC.1 hb;obtain⟨B,h3,h4⟩:=hown id h1;exact(hm.ok id B h3).place hm.I7 (J8.MX h4) h2
 obtain⟨hent,hfn⟩:=hΓ f sp hsp;intro next Q hn;unfold Oper.wp;rw[hrun];refine(hfn p.x r hD _ w vs _ Jv k1 hpl PX.I7).mono ?_;rintro e w' ⟨M0,Jo,Kg,rfl,e1,e2,e3,edr,e4,e5,e6,e7,e8,e9,e10,e11⟩;obtain⟨g',q1,q2,q3,q4⟩:=BQ hm hall hd hfr hown k5 k2 hpl (λb h=>.inl (.inl h)) e1 e2 e3 edr e4 e5
  (λb h=>e6 b (.inl (.inl h))) e8 e10 e11 e9
 exact hn _ w' g' q1 (by simpa using q2) q3 q4
end
set_option linter.unusedVariables false
set_option linter.unusedSimpArgs false
section
variable{F:Fam}{P:Program}{T:TypeId→Option (TI F)}{Γ : Ctx F}{o:Oper}{vals:List (Dat F)}{mm:Nat→Option (J8 F)}{c:Nat}{R:Type}{K:Oy F→Option R}
variable{own:Ow}{g:G}{w:World}{m:Nat→Option (J8 F)}{u:Nat→Bool}{a:Act}
theorem BK(hm:Jl own g w m)(hd:∀id,u id=false→g.ids id=none)(hall:∀b,w.heap.size≤b→own.o b)(hfr:u c=false){ob:Obj}{B:J8 F}{d:Dat F}{v:Value}
  (hv:∀g' w',g'.ids c=some (some (w.heap.size,0,0,[]))→J4 P g' w' d v)
  (hB:∀g' w',Le g w g' w'→g'.ids c=some (some (w.heap.size,0,0,[]))→w'.heap[w.heap.size]? = some ob→KQ g' w' c B)
  (hrun:(execOp a.eval o).run P w = .ok (.value v) (w.alloc ob)):M8 P own m u g w o a c { val:=d,mw:=[(c,some B)],nu:=1 }:=by
 have hf:g.ids c=none:=hd c hfr;have hold:∀b,b<w.heap.size→(w.alloc ob).heap[b]? = w.heap[b]?:=λb hb=>heap_alloc_old w ob b hb;have hnew:(w.alloc ob).heap[w.heap.size]? = some ob:=heap_alloc_new w ob
 obtain⟨k1,k2⟩:=gj (rm:=[]) (pl:=some (w.heap.size,0,0,[])) (B:=B) hm hf (w':=w.alloc ob) (by
  intro b0 c e b hb;cases e;simp only[Kr,I4]at hb;subst hb
  exact .inl ⟨KC _,by rw[World.size_alloc];omega,hall _ (KC _)⟩) rfl rfl rfl (KC _) (by rw[World.size_alloc];omega) (λb hb _=>hold b hb) (λg' hle hi=>hB g' _ hle hi hnew)
 intro next Q hn;unfold Oper.wp;rw[hrun];refine hn _ _ (g.name c (some (w.heap.size,0,0,[]))) (hv _ _ (a9 _ _ _)) k1 k2 ?_;intro x hu hx;have hx:x<c∨c+1≤x:=hx
 have:x≠c:=by omega
 rw[bE _ _ _ this];exact hd x hu
theorem uA{t:TypeId}{k v:TypeId}{tt:Ty}(h:Rh T t=some (k,v,tt)):∃ti,T t=some ti∧ti.desc = .map k v∧tt.KX=true:=by
 unfold Rh at h;split at h
 ·rename_i k' v' _ _ _ Pb _ ht
  cases hm:Pb.KX with
  | false=>rw[hm]at h;cases h
  | true=>rw[hm]at h;cases h;exact⟨_,ht,rfl,hm⟩
 ·cases h
theorem y_(hT:J5 P T){t:TypeId}(ho:o.op = .makeMap t none):Rule P o vals mm c K (ui T c K t):=by
 unfold ui;split
 ·rename_i k v tt ht;intro r hr;refine⟨_,hr,?_⟩;intro own g w a m u hle hm hd hall hfr hrep
  refine BK (ob:=.map #[] 0) hm hd hall (hfr 0 (by simp)) (v:=.map (some w.heap.size)) ?_ ?_ ?_
  ·intro g' w' hi;exact .c (.Og hi)
  ·intro g' w' hle' hi hh
   exact⟨w.heap.size,hi,[],hh,rfl,by simp⟩
  ·simp[execOp,ho,Instr.makeMap,newObj];rfl
 ·exact ah
theorem Eo{ts r:List Ty}{k:IntKind}(h:ts = .int k::r)(a:Js F ts){kd:ND F}{Np:List (ND F)}(he:LV F ts a=kd::Np):∃n,kd = .i k n:=by subst h;simp only[LV,enc1,QeW]at he;exact⟨_,he.1.symm⟩
theorem E1{ts r:List Ty}(h:ts = .str::r)(a:Js F ts){kd:ND F}{Np:List (ND F)}(he:LV F ts a=kd::Np):∃l,kd = .s l:=by subst h;simp only[LV,enc1,QeW]at he;exact⟨_,he.1.symm⟩
theorem vM{tt:Ty}{d:TypeDesc}{kd:ND F}(h:Ou tt (some d) kd=true){w:World}{I7:Nat→Prop}{kv:Value}(hk:Ju w I7 kd kv) :
  MapKept.IsKey d kv∧∀(w':World)(Jo:Nat→Prop)(x:ET F tt)(kd':ND F) (Np:List (ND F)) (ek:Value),Jj F tt x=kd'::Np→Ju w' Jo kd' ek→(ML tt kd x=true↔ek=kv)∧MapKept.IsKey d ek:=by
 unfold Ou at h;split at h
 ·rename_i n;split at h
  ·rename_i K r K' K'' m hfs hd;cases hd;simp only[KV,decide_eq_true_eq]at h;obtain⟨rfl,rfl⟩:=h;cases hk;refine⟨rfl,λw' Jo x kd' Np ek he hr=>?_⟩;obtain⟨m',rfl⟩:=Eo hfs _ he;cases hr;unfold ML;rw[he];refine⟨?_,rfl⟩;simp only[beq_iff_eq,Value.int.injEq,true_and];exact eq_comm
  ·rename_i r l hfs hd;cases hd;cases hk;refine⟨trivial,λw' Jo x kd' Np ek he hr=>?_⟩;obtain⟨l',rfl⟩:=E1 hfs _ he;cases hr;unfold ML;rw[he];refine⟨?_,trivial⟩;simp only[beq_iff_eq,Value.string.injEq];constructor
   ·rintro rfl;rfl
   ·intro e;have:=congrArg (λb:ByteArray=>b.data.toList) e;exact this.symm
  ·cases h
 ·cases h
theorem ut{tt:Ty}{p:ET F tt→Bool}{d:TypeDesc}{kv:Value}(hk:MapKept.IsKey d kv):∀(l:List (ET F tt)) (es:List MapEntry) (i:Nat),es.length=l.length→
  (∀(k:Nat)(x:ET F tt)(e:MapEntry),l[k]? = some x→es[k]? = some e→(p x=true↔e.key=kv)∧MapKept.IsKey d e.key)→
  (Instr.findNow d kv es i=some none∧l.find? p=none∧(∀y,Lu p l y=l++[y])∧Oi p l=false)∨
  ∃j x e,Instr.findNow d kv es i=some (some (i+j,e.val))∧l[j]? = some x∧es[j]? = some e∧e.key=kv∧l.find? p=some x∧(∀y,Lu p l y=l.set j y)∧Oi p l=true
 | [],es,i,hl,h=>by
  have:es = []:=O9 (by simpa using hl)
  subst this;exact .inl ⟨rfl,rfl,λ_=>rfl,rfl⟩
 | x::l,[],i,hl,h=>by simp at hl
 | x::l,e::es,i,hl,h=>by
  obtain⟨h1,h2⟩:=h 0 x e rfl rfl;obtain⟨r,hr,hiff⟩:=MapKept.sameNow_of_keys hk h2
  cases hp:p x with
  | true=>
   have he:=h1.1 hp;have hrt:r=true:=hiff.2 he.symm;subst hrt
   exact .inr ⟨0,x,e,by simp[Instr.findNow,hr],rfl,rfl,he,by simp[hp],λy=>by simp[Lu,hp],by simp[Oi,hp]⟩
  | false=>
   have hne:¬ kv=e.key:=λq=>by have:=h1.2 q.symm;rw[hp]at this;cases this
   have hrf:r=false:=by
    cases r with
    | false=>rfl
    | true=>exact absurd (hiff.1 rfl) hne
   subst hrf
   rcases ut hk l es (i+1) (by simpa using hl) (λk x e a b=>h (k+1) x e a b)with⟨k1,k2,k3,k4⟩ | ⟨j,x',e',k1,k2,k3,k4,k5,k6,k7⟩
   ·exact .inl ⟨by simp[Instr.findNow,hr,k1],by simp[hp,k2],λy=>by simp[Lu,hp,k3],by unfold Oi at k4 ⊢;simp[hp,k4]⟩
   ·exact .inr ⟨j+1,x',e',by simp[Instr.findNow,hr,k1];omega,by simpa using k2,by simpa using k3,k4,by simp[hp,k5],λy=>by simp[Lu,hp,k6],by unfold Oi at k7 ⊢;simp[hp,k7]⟩
theorem uF{tt:Ty}{x:ET F tt}{d:Dat F}(h:pO tt x=some d){kd:ND F}{Np:List (ND F)}(he:Jj F tt x=kd::Np){v:Value}(hv:Md w g.I7 (Np,tt.SY) v):J4 P g w d v:=by
 unfold pO at h;rw[he]at h;dsimp only at h
 cases hs:tt.SY with
 | true=>
  rw[hs]at h hv;cases h
  cases hv with
  | agg hl hh=>
   refine .agg (by simpa using hl) λk c x a b=>?_
   rw[MU,RN]at a;obtain⟨d,hd,rfl⟩:=a;exact .im (hh k d x hd b)
 | false=>
  rw[hs]at h hv;simp only[cond_false]at h;split at h
  ·cases h
   cases hv with
   | one h=>exact .c (.im h)
  ·cases h
theorem DF(hT:J5 P T){v:TypeId}{tt:Ty}{kd:ND F}{z:ET F tt}(h:wj T v tt kd=some z){d:Dat F}(hd:pO tt z=some d):∃zv,(zeroValue v).run P w = .ok zv w∧J4 P g w d zv:=by
 unfold wj at h;split at h
 ·rename_i te hte
  cases hc:da te.desc == tt.SY with
  | false=>rw[hc]at h;cases h
  | true=>
   rw[hc]at h;simp only[cond_true]at h
   have hag:da te.desc=tt.SY:=by simpa using hc
   have hle:=bK F h;obtain⟨j,hj,_,_,zv,hz,hzs,hzl,hr⟩:=hT.info v te hte;have hza:=hT.zag v te j zv hte hj hz
   refine⟨zv,by simp[zeroValue,typeInfo,hj,hz],?_⟩
   cases he:Jj F tt z with
   | nil=>rw[he]at hle;exact absurd hle.1 (by simp)
   | cons kd' Np=>
    rw[he]at hle
    have hl2:OT te.zero Np:=⟨by simpa using hle.1,λk a b h1 h2=>hle.2 (k+1) a b h1 h2⟩
    refine uF hd he ?_
    cases hs:tt.SY with
    | true=>
     rw[hag,hs]at hza
     cases zv with
     | agg cs=>
      refine .agg (by show cs.toList.length=Np.length;rw[← hl2.1,hzl,← hzs];rfl) λk c x a b=>?_
      have hlt:k<te.zero.length:=by rw[hl2.1];exact(I0.1 a).1
      exact(hr w g.I7 k _ x (IZ hlt) (by rw[← ZF];exact b)).Un (hl2.2 k _ c (IZ hlt) a)
     | _=>cases hza
    | false=>
     unfold pO at hd;rw[he,hs]at hd;simp only[cond_false]at hd;split at hd
     ·rename_i d0;rw[hag,hs]at hza
      have h0:0<te.zero.length:=by rw[hl2.1];simp
      have hcell:zv.cells[0]? = some zv:=by
       cases zv<;>first | rfl | cases hza
      exact .one ((hr w g.I7 0 _ zv (IZ h0) hcell).Un (hl2.2 0 _ d0 (IZ h0) rfl))
     ·cases hd
 ·cases h
theorem xa{tt:Ty}{d:TypeDesc}{kd:ND F}(h:Ou tt (some d) kd=true){I7:Nat→Prop}{kv:Value}(hk:Ju w I7 kd kv){l:List (ET F tt)}{es:List MapEntry}
  (h3:∀(k:Nat)(x:ET F tt)(e:MapEntry),l[k]? = some x→es[k]? = some e→e.born=k∧∃kd Np,Jj F tt x=kd::Np∧Ju w I7 kd e.key∧Md w I7 (Np,tt.SY) e.val) :
  ∀(k:Nat)(x:ET F tt)(e:MapEntry),l[k]? = some x→es[k]? = some e→(ML tt kd x=true↔e.key=kv)∧MapKept.IsKey d e.key:=by
 intro k x e a b;obtain⟨_,kd',Np,q1,q2,_⟩:=h3 k x e a b;exact(vM h hk).2 w I7 x kd' Np e.key q1 q2
theorem zY(hT:J5 P T){t:TypeId}{x y:Operand}{ok:Bool}(ho:o.op = .lookup t x y ok):Rule P o vals mm c K (v_ T vals mm K t ok):=by
 unfold v_;split
 ·rename_i k v tt id kd hmt;split
  ·rename_i Pb l hid;split
   ·rename_i RI;subst RI
    cases hko:Ou Pb (eD T k) kd with
    | false=>exact ah
    | true=>
     simp only[cond_true];split
     ·rename_i z hz;split
      ·rename_i d hd;refine ao ?_;intro own g w a m hle hm hr;rw[ho]at hr;simp only[Op.operands,K7,LG]at hr;obtain⟨hx,hy⟩:=KM hr;obtain⟨ti,ht,hde,hmp⟩:=uA hmt;obtain⟨b,k1,k2,es,k3,k4,k5⟩:=qf hm (hle _ _ hid);obtain⟨b',c',k6,ex⟩:=pW (aV hx);rw[k2]at k6;cases k6;have hu:=hT.und _ _ ht;rw[hde]at hu
       cases hdk:eD T k with
       | none=>rw[hdk]at hko;unfold Ou at hko;split at hko<;>(try cases hko);split at hko<;>simp_all
       | some dk=>
        rw[hdk]at hko
        have WR:P.underlying k=some dk:=by
         unfold eD at hdk;split at hdk
         ·rename_i ti' Z8;cases hdk;exact hT.und _ _ Z8
         ·cases hdk
        have hkv:=b7 (aV hy);have hrel:=xa hko hkv k5;have hik:=(vM hko hkv).1
        have hfin:∀{v':Value}{bb:Bool}{d':Dat F},J4 P g w d' v'→(Oi (ML Pb kd) l=bb)→J4 P g w (cond ok (.MI [d',.c (.im (.b (Oi (ML Pb kd) l)))]) d') (if ok=true then .tuple #[v',.bool bb]else v'):=by
         intro v' bb d' hv' hb
         cases ok with
         | false=>exact hv'
         | true=>
          refine .MI rfl λj d0 x0 a0 b0=>?_
          match j with
          | 0=>cases a0;cases b0;exact hv'
          | 1=>cases a0;cases b0;rw[hb];exact .c (.im (.b _))
          | j+2=>simp at a0
        rcases ut (p:=ML Pb kd) hik l es 0 k4 hrel with⟨f1,f2,_,f4⟩ | ⟨j,x0,e0,f1,f2,f3,f4,f5,_,f7⟩
        ·obtain⟨zv,hz1,hz2⟩:=DF (w:=w) (g:=g) hT hz (d:=d) (by rw[← hd];unfold Lx;rw[f2];rfl)
         refine⟨if ok=true then .tuple #[zv,.bool false]else zv,?_,hfin hz2 f4⟩
         simp only[execOp,ho,ex,Instr.lookup,LM,run_underlying hu,L8,MapKept.run_getObj_map k3,MO,MapKept.run_checkKey WR hik,MapKept.run_findKey WR f1,hz1]
        ·obtain⟨_,kd',Np,q1,q2,q3⟩:=k5 j x0 e0 f2 f3
         refine⟨if ok=true then .tuple #[e0.val,.bool true]else e0.val,?_,hfin (uF (x:=x0) (by rw[← hd];unfold Lx;rw[f5];rfl) q1 q3) f7⟩
         simp only[execOp,ho,ex,Instr.lookup,LM,run_underlying hu,L8,MapKept.run_getObj_map k3,MO,MapKept.run_checkKey WR hik,MapKept.run_findKey WR f1]
      ·exact ah
     ·exact ah
   ·exact ah
  ·exact ah
 ·exact ah
def NT(w:World)(b:Nat)(ob:Obj):World:={ w with heap:=w.heap.setIfInBounds b ob }
theorem rL(w:World)(b:Nat)(ob:Obj){b':Nat}(h:b'≠b):(NT w b ob).heap[b']? = w.heap[b']?:=by show(w.heap.setIfInBounds b ob)[b']? = _;simp[Ne.symm h]
theorem zj(w:World)(b:Nat)(ob:Obj)(h:b<w.heap.size):(NT w b ob).heap[b]? = some ob:=by show(w.heap.setIfInBounds b ob)[b]? = _;simp[h]
theorem uI(w:World)(b:Nat)(ob:Obj):(NT w b ob).heap.size=w.heap.size:=by show(w.heap.setIfInBounds b ob).size=_;simp
theorem qP(hm:Jl own g w m){id b:Nat}{ob:Obj}{B B':J8 F}(hB:m id=some B)(ho:B.owned=true)(hblk:g.blk id b)
  (hB':(NT w b ob).heap[b]? = some ob→Le g w g (NT w b ob)→KQ g (NT w b ob) id B') :
  Jl own g (NT w b ob) (Ki m [(id,some B')])∧Stp m g w g (NT w b ob):=by
 have hlt:b<w.heap.size:=(hm.ok id B hB).place hm.I7 (J8.MX ho) hblk;have hne:∀b',b'≠b→(NT w b ob).heap[b']? = w.heap[b']?:=λb' h=>rL w b ob h;have Sy:¬ g.I7 b:=(hm.own id B b hB ho hblk).2;have hle:Le g w g (NT w b ob):=⟨λ_ _ h=>h,λ_ h=>h,λb' hb'=>hne b' (λe=>Sy (e▸hb')),λ_ h=>h,λb' hb'=>hne b' (λe=>(hm.len b' hb').1 (e▸(hm.own id B b hB ho hblk).1))⟩
 have less:∀x,x≠id→∀Bx,Ki m [(id,some B')] x=some Bx→m x=some Bx:=by intro x hx Bx h;simp only[Ki]at h;rw[aj (λe=>hx e.symm)]at h;simpa using h
 refine⟨?_,hle,rfl,rfl,rfl,by rw[uI];exact KC _,?_,KC _⟩
 ·refine hm.Mv (S:=λx=>x=id) hle less (λ_ _=>rfl) ?_ ?_ ?_ hm.io (λb' hb'=>⟨(hm.len b' hb').1,by rw[uI];exact(hm.len b' hb').2⟩)
  ·intro x Bx b' hx hBx hox hbx;refine⟨hne b' (λe=>hx ?_),(hm.own x Bx b' hBx hox hbx).2⟩;subst e;exact hm.OB x id Bx B b' hBx hB hox ho hbx hblk
  ·rintro x Bx rfl hBx;simp only[Ki,ba,if_true,K3]at hBx;subst hBx;refine⟨hB' (zj w b ob hlt) hle,?_⟩;rintro b' Zv hb';refine⟨(hm.own x B b' hB ho hb').1,(hm.own x B b' hB ho hb').2,?_⟩;intro y By hy hoy hby;by_cases hyx:y=x
   ·exact hyx
   ·exact hm.OB y x By B b' (less y hyx By hy) hB hoy ho hby hb'
  ·intro b' hb';rw[uI];exact hm.I7 b' hb'
 ·intro b' _ hno;exact hne b' (λe=>hno id B hB ho (e▸hblk))
theorem xy(hm:Jl own g w m)(hle:Na mm m){tt:Ty}{d:Dat F}{cs:List (Kv F)}(h:sm tt d=some cs){ds:List (ND F)}(hds:bI mm cs=some (ds,[])){v:Value}(hv:J4 P g w d v){Np:List (ND F)}(hl:OT ds Np):Md w g.I7 (Np,tt.SY) v:=by
 have nd:=λ(vs:List Value)(hr:∀(k:Nat)(x:Kv F)(v:Value),cs[k]? = some x→vs[k]? = some v→Ka g w x v)=>fA hm hle hds (g1:=g) (.refl g w) (by simp) vs hr
 have hlen:=d8 hds;unfold sm at h;split at h
 ·rename_i x
  cases hs:tt.SY with
  | true=>rw[hs]at h;cases h
  | false=>
   rw[hs]at h;cases h
   have h1:=nd [v] (λk x0 v0 a b=>by
    cases k with
    | zero=>cases a;cases b;exact aV hv
    | succ k=>simp at a)
   match ds,hlen,hl,h1 with
   | [d0],_,hl,h1=>
    match Np,hl with
    | [d1],hl=>exact .one ((h1 0 d0 v rfl rfl).Un (hl.2 0 d0 d1 rfl rfl))
    | [],hl=>exact absurd hl.1 (by simp)
    | _::_::_,hl=>exact absurd hl.1 (by simp)
   | [],hlen,_,_=>simp at hlen
   | _::_::_,hlen,_,_=>simp at hlen
 ·rename_i cs'
  cases hs:tt.SY with
  | false=>rw[hs]at h;cases h
  | true=>
   rw[hs]at h;cases h
   cases hv with
   | agg hl2 hh=>
    rename_i vs;have h1:=nd vs hh
    refine .agg (by rw[hl2,← hlen,hl.1]) λk c x a b=>?_
    have hlt:k<ds.length:=by rw[hl.1];exact(I0.1 a).1
    exact(h1 k _ x (IZ hlt) b).Un (hl.2 k _ c (IZ hlt) a)
 ·cases h
theorem vN(hT:J5 P T){t:TypeId}{x y z:Operand}(ho:o.op = .mapUpdate t x y z):Rule P o vals mm c K (qT T vals mm K t):=by
 unfold qT;split
 ·rename_i k v tt id kd d hmt;split
  ·rename_i Pb l cs hid hcs;split
   ·rename_i RI;subst RI
    cases hko:Ou Pb (eD T k) kd with
    | false=>exact ah
    | true=>
     simp only[cond_true];split
     ·rename_i ds hds;split
      ·rename_i ny hny;intro r hr;refine⟨_,hr,?_⟩;intro own g w a m u hle hm hd hall hfr hrep;rw[ho]at hrep;simp only[Op.operands,K7,LG]at hrep;obtain⟨hx,hyz⟩:=aP.1 hrep;obtain⟨hy,hz⟩:=KM hyz;obtain⟨ti,ht,hde,hmp⟩:=uA hmt;obtain⟨b,k1,k2,es,k3,k4,k5⟩:=qf hm (hle _ _ hid);obtain⟨b',c',k6,ex⟩:=pW (aV hx);rw[k2]at k6;cases k6;have hu:=hT.und _ _ ht;rw[hde]at hu
       cases hdk:eD T k with
       | none=>rw[hdk]at hko;unfold Ou at hko;split at hko<;>(try cases hko);split at hko<;>simp_all
       | some dk=>
        rw[hdk]at hko
        have WR:P.underlying k=some dk:=by
         unfold eD at hdk;split at hdk
         ·rename_i ti' Z8;cases hdk;exact hT.und _ _ Z8
         ·cases hdk
        have hkv:=b7 (aV hy);have hrel:=xa hko hkv k5;have hik:=(vM hko hkv).1;have hle2:=bK F hny
        cases he:Jj F Pb ny with
        | nil=>rw[he]at hle2;exact absurd hle2.1 (by simp)
        | cons kd' Np=>
         rw[he]at hle2
         have hl2:OT ds Np:=⟨by simpa using hle2.1,λk a b h1 h2=>hle2.2 (k+1) a b h1 h2⟩
         have hkd:Rs kd kd':=hle2.2 0 kd kd' rfl rfl;have hkv':Ju w g.I7 kd' (a.eval y):=hkv.Un hkd;have hval:=xy hm hle hcs hds hz hl2
         have done:∀(es':List MapEntry),(execOp a.eval o).run P w = .ok .skip (NT w b (.map ⟨es'⟩ es'.length))→es'.length=(Lu (ML Pb kd) l ny).length→
           (∀(k:Nat)(x:ET F Pb)(e:MapEntry),(Lu (ML Pb kd) l ny)[k]? = some x→es'[k]? = some e→e.born=k∧∃kd Np,Jj F Pb x=kd::Np∧Ju w g.I7 kd e.key∧Md w g.I7 (Np,Pb.SY) e.val)→
           M8 P own m u g w o a c { val:=.c .any,mw:=[(id,some (.mp Pb (Lu (ML Pb kd) l ny)))] }:=by
          intro es' hrun h1 h2
          obtain⟨w1,w2⟩:=qP (ob:=.map ⟨es'⟩ es'.length) (B':=.mp Pb (Lu (ML Pb kd) l ny)) hm (hle _ _ hid) rfl (G.Kt k2) (by intro hh hle';refine⟨b,k2,es',hh,h1,λk x e p q=>?_⟩;obtain⟨p1,kd0,abN,p2,p3,p4⟩:=h2 k x e p q;exact⟨p1,kd0,abN,p2,p3.mono hle'.I7 hle'.heap,p4.mono hle'.I7 hle'.heap⟩)
          intro next Q hn;unfold Oper.wp;rw[hrun];exact hn undef _ g (.c .any) w1 w2 (λid hu _=>hd id hu)
         rcases ut (p:=ML Pb kd) hik l es 0 k4 hrel with⟨f1,f2,f3,f4⟩ | ⟨j,x0,e0,f1,f2,f3,f4,f5,f6,f7⟩
         ·refine done (es++[{ key:=a.eval y,val:=a.eval z,born:=es.length }]) ?_ (by rw[f3];simp[k4]) ?_
          ·simp only[execOp,ho,ex,Instr.mapUpdate,LM,run_underlying hu,L8,MapKept.run_getObj_map k3,MO,MapKept.run_checkKey WR hik,MapKept.run_findKey WR f1,MapKept.run_setObj_map _ k3];simp[NT]
          ·intro k x e p q;rw[f3]at p;by_cases hk:k<l.length
           ·rw[ME hk]at p
            rw[ME (by omega)]at q
            exact k5 k x e p q
           ·rw[Nj (by omega)]at p
            rw[Nj (by omega)]at q
            have hk0:k - l.length=0:=by have:=(I0.1 p).1;simp at this;omega
            rw[hk0]at p
            rw[show k - es.length=0 by omega]at q
            cases p;cases q
            exact⟨by show es.length=k;omega,kd',Np,he,hkv',hval⟩
         ·have hjl:j<es.length:=(I0.1 f3).1
          refine done (es.set j { e0 with key:=a.eval y,val:=a.eval z }) ?_ (by rw[f6];simp[k4]) ?_
          ·have hst:(Instr.keyThatStays (((⟨es⟩:Array MapEntry)[0+j]?.map (·.key)).getD (a.eval y)) (a.eval y)).run P w = .ok (a.eval y) w:=by
            have e1:(((⟨es⟩:Array MapEntry)[0+j]?.map (·.key)).getD (a.eval y))=a.eval y:=by rw[L_,List.getElem?_toArray,f3];exact f4
            rw[e1];exact MapKept.run_keyThatStays hik
           have hmod:(⟨es⟩:Array MapEntry).modify (0+j) (λe=>{ e with key:=a.eval y,val:=a.eval z })=⟨es.set j { e0 with key:=a.eval y,val:=a.eval z }⟩:=by
            apply Array.toList_inj.1;apply ZC;intro i;rw[ZF,QdE,List.getElem?_toArray];show _=(es.set j _)[i]?;rw[List.getElem?_set];by_cases hij:j=i
            ·subst hij;simp[hjl,f3];have:=(I0.1 f3).2;rw[this]
            ·simp[hij]
           simp only[execOp,ho,ex,Instr.mapUpdate,LM,run_underlying hu,L8,MapKept.run_getObj_map k3,MO,MapKept.run_checkKey WR hik,MapKept.run_findKey WR f1,hst,MapKept.run_setObj_map _ k3,hmod];simp[NT]
          ·intro k x e p q;rw[f6]at p;rw[List.getElem?_set]at p q;by_cases hjk:j=k
           ·subst hjk
            rw[if_pos rfl,if_pos (by omega)]at p q
            cases p;cases q
            exact⟨(k5 j x0 e0 f2 f3).1,kd',Np,he,hkv',hval⟩
           ·rw[if_neg hjk]at p q;exact k5 k x e p q
      ·exact ah
     ·exact ah
   ·exact ah
  ·exact ah
 ·exact ah
end
set_option linter.unusedVariables false
set_option linter.unusedSimpArgs false
section
variable{F:Fam}{P:Program}{T:TypeId→Option (TI F)}{Γ : Ctx F}{o:Oper}{vals:List (Dat F)}{mm:Nat→Option (J8 F)}{c:Nat}{R:Type}{K:Oy F→Option R}
variable{own:Ow}{g:G}{w:World}{m:Nat→Option (J8 F)}{u:Nat→Bool}{a:Act}
theorem DA{t ty e:TypeId}{j:TypeInfo}{z:Value}(hu:P.underlying t=some (.slice e))(hj:P.info? e=some j)(hz:j.zero=some z){b q n cap:Nat}{cur:List Value}
  {e':TypeId} (hb:w.heap[b]? = some (.cells ⟨cur⟩ e' (0,0))) (hn:0<n) (h1:∀x∈(Builtin.zeroCells z.cells n).toList,x.oneCell'=true) (hfit:q+(Builtin.zeroCells z.cells n).toList.length≤cur.length) :
  (Builtin.clear_ #[t] ty #[.slice (some ⟨b,q,none⟩) n cap]).run P w =
    .ok (.tuple #[]) (w.setRow b (cur.take q++(Builtin.zeroCells z.cells n).toList++cur.drop (q+(Builtin.zeroCells z.cells n).toList.length)).toArray):=by
 have hst:=run_storeCells_at P b q e' (Builtin.zeroCells z.cells n).toList 0 ⟨cur⟩ w hb (by simpa using hfit) h1
 simp only[R4]at hst
 obtain⟨m,rfl⟩:∃m,n=m+1:=⟨n - 1,by omega⟩
 simp[Builtin.clear_,run_underlying hu,zeroValue,typeInfo,hj,hz,hst]
theorem BB(hT:J5 P T)(hm:Jl own g w m)(hd:∀id,u id=false→g.ids id=none)
  {t e:TypeId} {i te:TI F} (ht:T t=some i) (hde:i.desc = .slice e) (hte:T e=some te) {tt:Ty} (hsz:Jm F tt=te.size) (h0:0<te.size) {z0:ET F tt} (hz0:Ml F tt te.zero=some z0) {x:Operand}
  (ho:o.op = .call { callee:=.builtin .clear,args:=#[x],argTypes:=#[t] }) {l:List (ET F tt)} {id off n:Nat} (hrow:m id=some (.row tt l))
  (hdst:(g.ids id=none∨g.ids id=some none)∧off=0∧n=0∧(∃p,a.eval x = .slice p 0 0)∨∃b q dCap cap,g.ids id=some (some (b,cap,l.length,[]))∧a.eval x = .slice (some ⟨b,q,none⟩) n dCap∧off+n≤l.length∧(n=0∨q=off*Jm F tt)) :
  M8 P own m u g w o a c { val:=.MI [],mw:=[(id,some (.row tt (LP l off n (List.replicate n z0))))] }:=by
 have hu:=hT.und _ _ ht;rw[hde]at hu;obtain⟨j,z,hj,hs,hb,hz,hzs,hml,hzl,hmr⟩:=oY hT hte h0 n
 have MW:∀{v:Value}{w':World},(Builtin.clear_ #[t] o.type #[a.eval x]).run P w = .ok v w'→(execOp a.eval o).run P w = .ok (.value v) w':=by intro v w' hr;simp only[execOp,ho,resolve,invoke,builtin,LM,MO,L8,QeF,K7,LG,hr]
 have same:∀{l':List (ET F tt)},l'=l→Ki m [(id,some (.row tt l'))]=m:=by
  rintro l' rfl
  funext x
  simp only[Ki];split
  ·rename_i hx;rw[← M_ hx,hrow]
  ·rfl
 have abP:∀g' w',J4 (F:=F) P g' w' (.MI []) (.tuple #[]):=λg' w'=>.MI rfl (λj d x h=>by simp at h)
 by_cases hn0:n=0
 ·subst hn0
  have hl:LP l off 0 (List.replicate 0 z0)=l:=by simp[LP]
  have hrun:(execOp a.eval o).run P w = .ok (.value (.tuple #[])) w:=by
   refine MW ?_
   have:∃p q,a.eval x = .slice p 0 q:=by
    rcases hdst with⟨_,_,_,p,e⟩ | ⟨b,q,dCap,cap,_,e,_⟩
    ·exact⟨p,0,e⟩
    ·exact⟨_,_,e⟩
   obtain⟨p,q,e⟩:=this;rw[e]
   cases p<;>simp[Builtin.clear_,run_underlying hu]
  intro next Q hn;unfold Oper.wp;rw[hrun]
  exact hn _ w g (abP _ _) (by rw[same hl];exact hm) (.refl _ _ _) (λid hu _=>hd id hu)
 ·rcases hdst with⟨_,_,h,_⟩ | ⟨b,q,dCap,cap,hid,hxv,hoff,hq⟩
  ·exact absurd h hn0
  rcases hm.ok id _ hrow with⟨k1,_⟩ | ⟨b',cap2,cur,e',k1,k2,k3,k4,k5,k6⟩
  ·rw[k1]at hid;cases hid
  ·rw[k1]at hid;cases hid;have hq:q=off*Jm F tt:=hq.resolve_left hn0;subst hq;have hcl:(cells F tt l).length=l.length*Jm F tt:=aD
   have hcur:(cells F tt l).length≤cur.length:=by rw[hcl,k5];exact M5 _ k3
   obtain⟨zs,R7⟩:∃zs,zs=(Builtin.zeroCells z.cells n).toList:=⟨_,rfl⟩
   have hzm:zs=(madeCells z.cells (n*te.size)).toList:=by rw[R7];unfold Builtin.zeroCells madeCells;rw[hzs]
   have hfl:(List.replicate n te.zero).flatten.length=n*te.size:=by
    rw[qB (sz:=te.size) (λx hx=>by rw[QeX]at hx;rw[hx.2,hzl])]
    simp
   have V5:zs.length=n*Jm F tt:=by rw[hzm,hml,hfl,hsz]
   have h1:∀x∈zs,x.oneCell'=true:=by
    intro x hx;obtain⟨k,hk⟩:=RL hx
    have hlt:k<(List.replicate n te.zero).flatten.length:=by have:=(I0.1 hk).1;rw[hfl,← hsz,← V5];exact this
    exact(hmr w g.I7 k _ x (IZ hlt) (by rw[← hzm];exact hk)).oneCell
   have hmin:min n (List.replicate n z0).length=n:=by simp
   have hm1:off+min n (List.replicate n z0).length≤l.length:=by rw[hmin];exact hoff
   have hfit:off*Jm F tt+zs.length≤cur.length:=by rw[V5,← OQ];have:(off+n)*Jm F tt≤l.length*Jm F tt:=M5 _ hoff;omega
   have hrun:=DA (P:=P) (w:=w) (ty:=o.type) (n:=n) (cap:=dCap) (q:=off*Jm F tt) hu hj hz k2 (by omega) (by rw[← R7];exact h1) (by rw[← R7];exact hfit)
   rw[← R7]at hrun;have hz2:OT te.zero (Jj F tt z0):=bK F hz0
   obtain⟨w1,w2⟩:=sD (B':=.row tt (LP l off n (List.replicate n z0))) (arr:=cur.take (off*Jm F tt)++zs++cur.drop (off*Jm F tt+zs.length)) hm hrow rfl k1 k2 (by
    intro hh hle'
    refine .inr ⟨b,cap,_,e',by rw[jT hm1];exact k1,hh,by rw[jT hm1];exact k3,k4,?_,?_⟩
    ·simp only[I3,Lj,Nh];omega
    ·intro k d x p q;refine Ju.le hle' ?_;rw[xj hm1]at p
     have hrl:(cells F tt (List.replicate n z0)).length=n*Jm F tt:=by rw[aD,List.length_replicate]
     have ht0:(cells F tt (List.replicate n z0)).take (n*Jm F tt)=cells F tt (List.replicate n z0):=XK (by rw[hrl];exact KC _)
     rw[ht0]at p;refine qu (w:=w) (I7:=g.I7) (cs:=cells F tt l) (ds:=cells F tt (List.replicate n z0)) (cur:=cur) (vs:=zs) (q:=off*Jm F tt) ?_ hcur k6 ?_ ?_ k d x p q
     ·rw[hrl,aD,← OQ];exact M5 _ hoff
     ·rw[V5,hrl]
     ·intro k d x h3 h4
      have hk:k<n*Jm F tt:=by rw[← hrl];exact(I0.1 h3).1
      have hlz:(Jj F tt z0).length=te.size:=by rw[aT,hsz]
      have e1:(cells F tt (List.replicate n z0))=(List.replicate n (Jj F tt z0)).flatten:=by simp[cells]
      rw[e1,cS _ (by rw[hlz];omega) n k (by rw[hlz,← hsz];exact hk),hlz]at h3
      have hk2:k<n*te.zero.length:=by rw[hzl,← hsz];exact hk
      have hk3:k % te.size<te.zero.length:=by rw[hzl];exact Nat.mod_lt _ (by omega)
      have e2:(List.replicate n te.zero).flatten[k]? = some te.zero[k % te.size]:=by
       rw[cS te.zero (by omega) n k hk2,hzl,IZ hk3]
      exact(hmr _ _ k _ x e2 (by rw[← hzm];exact h4)).Un (hz2.2 (k % te.size) _ d (IZ hk3) h3))
   intro next Q hn;unfold Oper.wp
   rw[MW (by rw[hxv];exact hrun)]
   exact hn _ _ g (abP _ _) w1 w2 (λid hu _=>hd id hu)
theorem Bs(hT:J5 P T){t:TypeId}{x:Operand}(ho:o.op = .call { callee:=.builtin .clear,args:=#[x],argTypes:=#[t] }):Rule P o vals mm c K (yS T vals mm K t):=by
 unfold yS;split
 ·rename_i e _ _ _ _ _ id sz off n ht;split
  ·exact ah
  ·rename_i te hte;split
   ·rename_i tt l hrow;refine au (λhc=>?_) (λ_=>ah);simp only[KV,decide_eq_true_eq,beq_iff_eq]at hc;obtain⟨⟨hsz,rfl⟩,h0⟩:=hc
    have h0:0<te.size:=by
     have:1≤te.size:=by simpa[Nat.blt]using h0
     omega
    split
    ·rename_i z hz;intro r' hr';refine⟨_,hr',?_⟩;intro own g w a m u hle hm hd hall hfr hrep;rw[ho]at hrep
     have h1:=KY (by simpa[Op.operands,Call.operands]using hrep)
     refine BB hT hm hd ht rfl hte hsz h0 hz ho (hle _ _ hrow) ?_;rcases lg (aV h1)with⟨hi,rfl,rfl,p,hv⟩ | ⟨b,c',len,q,hi,h5,h6,h7,h8,hv⟩
     ·exact .inl ⟨.inr hi,rfl,rfl,p,hv⟩
     ·obtain⟨rfl,_,_⟩:=bX hm (hle _ _ hrow) hi;refine .inr ⟨b,q,_,c',hi,hv,h5,?_⟩;rcases h7 with⟨h7,_⟩ | h7
      ·left;omega
      ·right;rw[h7,hsz]
    ·exact ah
   ·exact ah
 ·exact ah
theorem C4(hT:J5 P T){t:TypeId}{x:Operand}{lo hi:Option Operand}(ho:o.op = .slice t x lo hi none){bb:Bool}(hc:(bb&&lo.isNone)=true):Rule P o vals mm c K (Vz T vals mm c K t (ob hi 1)):=by
 have hlo:lo=none:=by cases lo with | none=>rfl | some _=>simp at hc
 subst hlo;clear hc;unfold Vz;split
 ·rename_i e _ _ _ _ _ id rest ht;split
  ·exact ah
  ·rename_i te hte;split
   ·rename_i tt l hrow;refine au (λhsz=>?_) (λ_=>ah);split
    ·rename_i q hq;refine aC λpr hr=>?_;intro r' hr';refine⟨_,hr',?_⟩;intro own g w a m u hle hm hd hall hfr hrep;obtain⟨c1,c2,c3,rfl⟩:=Dw hr
     have hops:o.op.operands.toList.map a.eval=a.eval x::(hi.map a.eval).toList:=by
      rw[ho]
      cases hi<;>simp[Op.operands]
     rw[hops]at hrep;have hx0:=hrep.2 0 _ (a.eval x) rfl rfl
     have hhi:(hi.map a.eval=none∧q=l.length)∨∃k,hi.map a.eval=some (.int k q):=by
      cases hi with
      | none=>simp only[ob,bound,K3]at hq;exact .inl ⟨rfl,hq.symm⟩
      | some y=>
       simp only[ob,bound]at hq;split at hq
       ·rename_i k n' hq';cases hq
        have:=hrep.2 1 _ (a.eval y) hq' (by simp)
        exact .inr ⟨k,by rw[S_,bG this]⟩
       ·cases hq
     have run:∀{ptr:Option Addr}{cap:Nat},a.eval x = .slice ptr l.length cap→l.length≤cap→
       (execOp a.eval o).run P w = .ok (.value (.slice (if cap=0 then ptr else ptr.map (·.add 0)) q.toNat cap)) w:=by
      intro ptr cap e1 h5;have hu:=hT.und _ _ ht
      have hr:=kG (P:=P) (w:=w) true l.length cap none (hi.map a.eval) 0 q (.inl ⟨rfl,rfl⟩) hhi (by omega) c2 (by omega)
      simp only[execOp,ho,Instr.sliceAt,Instr.slice,LM,run_underlying hu,L8,e1,Option.map_none];rw[hr];simp only[L8,bA hT hte,MO];simp
     have OY:g.ids c=none:=hd c (hfr 0 (by simp))
     have htk:(l.take (q.toNat - (0:Int).toNat)).length=q.toNat:=by rw[Lj];simp;omega
     have fin:∀{v:Value}{pl:Pl},(execOp a.eval o).run P w = .ok (.value v) w→
       (Jl own (g.name c pl) w (Ki m ([id].map (λr=>(r,none))++[(c,some (.row tt (l.take (q.toNat - (0:Int).toNat))))]))∧Stp m g w (g.name c pl) w)→Ka (F:=F) (g.name c pl) w (.KU c) v→
       M8 P own m u g w o a c { val:=.c (.KU c),mw:=[(id,none),(c,some (.row tt (l.take (q.toNat - (0:Int).toNat))))],nu:=1 }:=by
      intro v pl hrun hst hv next Q hn;unfold Oper.wp;rw[hrun];refine hn _ _ _ (.c hv) hst.1 hst.2 ?_;intro y hy hcy
      have:y≠c:=by have hcy:y<c∨c+1≤y:=hcy;omega
      rw[bE _ _ _ this];exact hd y hy
     have hB:=hle _ _ hrow;rcases a_ (aV hx0)with⟨hid,ptr,ev⟩ | ⟨b,c',len,hid,h5,h6,ev⟩
     ·rcases hm.ok id _ hB with⟨_,rfl⟩ | ⟨_,_,_,_,k1,_⟩
      ·simp only[QeK]at c3 hq
       have hq0:q=0:=by omega
       subst hq0
       refine fin (pl:=none) (run (by simpa using ev) (KC _)) (gj hm OY (λ_ _ h=>by cases h) rfl rfl rfl (KC _) (KC _) (λ_ _ _=>rfl) (λg' _ hi=>.inl ⟨hi,by simp⟩)) ?_
       exact .MR _ (a9 _ _ _)
      ·rw[hid]at k1;cases k1
     ·rcases hm.ok id _ hB with⟨k1,_⟩ | ⟨b',cap2,cur,e',k1,k2,k3,k4,k5,k6⟩
      ·rw[k1]at hid;cases hid
      rw[k1]at hid;cases hid;refine fin (pl:=some (b,c',q.toNat,[])) (run ev k3) (gj (rm:=[id]) hm OY ?_ rfl rfl rfl (KC _) (KC _) (λ_ _ _=>rfl) ?_) ?_
      ·intro b0 c0 e0 b1 hb1;cases e0;simp only[Kr,I4]at hb1;subst hb1
       exact .inr ⟨id,by simp,_,hB,rfl,G.Kt k1⟩
      ·intro g' hle' hi
       refine .inr ⟨b,c',cur,e',by rw[htk];exact hi,k2,by rw[htk];omega,k4,k5,?_⟩
       intro k d x h1 h2
       have h1':(cells F tt l)[k]? = some d:=by
        have:=fy (F:=F) (l:=l) (a:=0) (n:=q.toNat - (0:Int).toNat);simp only[Fx.sub,List.drop_zero,Nat.zero_mul]at this;rw[this,MV]at h1;split at h1
        ·exact h1
        ·cases h1
       exact(k6 k d x h1' h2).mono hle'.I7 hle'.heap
      ·have e:(if c'=0 then(some ⟨b,0,none⟩:Option Addr)else(some ⟨b,0,none⟩:Option Addr).map (·.add 0))=some ⟨b,0,none⟩:=by
        split
        ·rfl
        ·rfl
       rw[e]
       exact .KU (n:=(q.toNat,[])) (a9 _ _ _) (by dsimp only;omega) k4
    ·exact ah
   ·exact ah
 ·exact ah
end
end Go.Fx
