/-
  The framework, second part: rules for steps, calls and maps. Conditions: none.
-/
import Derived.Test.YtppllkbjijfocaaGreatDoorFxA
import Derived.Laws.Tables
namespace Go.Fx
open Go
set_option linter.unusedVariables false
set_option linter.unusedSimpArgs false
section
variable{F:Fam}{P:Program}{T:TypeId→Option (TI F)}{o:Oper}{vals:List (Dat F)}{mm:Nat→Option (Jw F)}{c:Nat}{R:Type}{K:Oq F→Option R}{own:Ow}{g g':G}{w w':World}{m m':Nat→Option (Jw F)}
theorem aj{a b:Nat}(h:a≠b):Nat.beq a b=false:=by
 cases hb:Nat.beq a b with
 | false=>rfl
 | true=>exact absurd (M5 hb) h
theorem bc(a:Nat):Nat.beq a a=true:=WM a
theorem aK{x:Nat}:∀{l:List Nat},Jp x l=true↔x∈l
 | []=>by simp[Jp]
 | y::l=>by
  simp only[Jp];split
  ·rename_i h;have:=M5 h;subst this;simp
  ·rename_i h
   have hne:x≠y:=by rintro rfl;simp[bc]at h
   rw[aK];simp[hne]
theorem dC(m:Nat→Option (Jw F)):∀(l r:List (Nat×Option (Jw F))),Kc m (l++r)=Kc (Kc m l) r
 | [],r=>rfl
 | (id,B)::l,r=>dC _ l r
theorem cp:∀(mw:List (Nat×Option (Jw F))) (m:Nat→Option (Jw F)) (x:Nat),x∉mw.map (·.1)→Kc m mw x=m x
 | [],m,x,_=>rfl
 | (id,B)::r,m,x,h=>by simp only[KZ,Li,not_or]at h;simp only[Kc];rw[cp r _ x h.2,aj (λe=>h.1 e.symm)];simp
theorem o_(m:Nat→Option (Jw F))(l:List (Nat×Option (Jw F)))(id:Nat)(B:Option (Jw F))(x:Nat):Kc m (l++[(id,B)]) x=if x=id then B else Kc m l x:=by
 rw[dC];simp only[Kc];by_cases h:x=id
 ·subst h;simp
 ·rw[aj (λe=>h e.symm)];simp[h]
theorem Je.Ml{S:Nat→Prop}(hm:Je own g w m)(hl:Le g w g' w')
  (hsame:∀id,¬ S id→∀B,m' id=some B→m id=some B) (Lm:∀id,¬ S id→g'.ids id=g.ids id)
  (hkeep:∀id B b,¬ S id→m id=some B→B.owned=true→g.blk id b→w'.heap[b]? = w.heap[b]?∧¬ g'.IV b)
  (hnew:∀id B,S id→m' id=some B→KL g' w' id B∧∀b,B.owned=true→g'.blk id b→own.o b∧¬ g'.IV b∧∀id' B',m' id'=some B'→B'.owned=true→g'.blk id' b→id'=id)
  (Kg:∀b,g'.IV b→b<w'.heap.size) (Xx:∀b,g'.IV b→own.i b∨own.o b) (hlen:∀b,g'.len b→¬ own.o b∧b<w'.heap.size):Je own g' w' m':=by
 have hb:∀id b,¬ S id→g'.blk id b→g.blk id b:=by rintro id b hs ⟨b0,c,hc,hbb⟩;rw[Lm id hs]at hc;exact⟨b0,c,hc,hbb⟩
 refine⟨?_,?_,?_,Kg,Xx,hlen⟩
 ·intro id B h;by_cases hs:S id
  ·exact(hnew id B hs h).1
  ·have h0:=hsame id hs B h;exact(hm.ok id B h0).le hl (λho b hb'=>(hkeep id B b hs h0 ho hb').1)
 ·intro id id' B B' b h h' ho ho' k k';by_cases hs:S id
  ·exact(((hnew id B hs h).2 b ho k).2.2 id' B' h' ho' k').symm
  ·by_cases hs':S id'
   ·exact((hnew id' B' hs' h').2 b ho' k').2.2 id B h ho k
   ·exact hm.Ou id id' B B' b (hsame id hs B h) (hsame id' hs' B' h') ho ho' (hb id b hs k) (hb id' b hs' k')
 ·intro id B b h ho k;by_cases hs:S id
  ·exact⟨((hnew id B hs h).2 b ho k).1,((hnew id B hs h).2 b ho k).2.1⟩
  ·have h0:=hsame id hs B h;exact⟨(hm.own id B b h0 ho (hb id b hs k)).1,(hkeep id B b hs h0 ho (hb id b hs k)).2⟩
theorem Je.sub(hm:Je own g w m)(h:∀id B,m' id=some B→m id=some B):Je own g w m':=
 ⟨λid B hB=>hm.ok id B (h id B hB),λid id' B B' b hB hB'=>hm.Ou id id' B B' b (h id B hB) (h id' B' hB'),λid B b hB=>hm.own id B b (h id B hB),hm.IV,hm.io,hm.len⟩
def G.Nj(g:G)(ids:List Nat):G:=⟨g.ids,λb=>g.IV b∨∃id∈ids,g.blk id b,g.len⟩
theorem mb(g:G)(w:World)(ids:List Nat):Le g w (g.Nj ids) w:=⟨λ_ _ h=>h,λ_ h=>.inl h,λ_ _=>rfl,λ_ h=>h,λ_ _=>rfl⟩
theorem Ci(hm:Je own g w m){id:Nat}{t:Ty}{l:List (ET F t)}(h:m id=some (.row t l)){g1:G}(hle:Le g w g1 w)(Kg:∀b,g.blk id b→g1.IV b){v:Value}(hv:Jz (F:=F) g w (.KP id) v):Jm w g1.IV (.sl t l) v:=by
 rcases a_ hv with⟨hi,p,rfl⟩ | ⟨b,c,n,hi,h1,h2,rfl⟩
 ·rcases hm.ok id _ h with⟨_,rfl⟩ | ⟨b',cap,_,_,k1,_⟩
  ·exact .sl0 t p
  ·rw[hi]at k1;cases k1
 ·obtain⟨rfl,h4,h7⟩:=bU hm h hi;refine .sl t l b 0 c (λk=>(w.cell? ⟨b,k,none⟩).getD undef) (Kg b (G.Kn hi)) h4 h2 ?_ ?_
  ·intro k d hk;obtain⟨x,k1,k2⟩:=h7 k d hk;rw[LY,k1];rfl
  ·intro k d hk;obtain⟨x,k1,k2⟩:=h7 k d hk;rw[k1];exact k2.le hle
theorem xK{IV Jg:Nat→Prop}(hi:∀b,IV b→Jg b){t:Ty}{l:List (ET F t)}{pl:Pl}(h:bD w IV t l pl)(hb:∀b c,pl=some (b,c)→Jg b){v:Value}(hv:Lf pl v):Jm w Jg (.sl t l) v:=by
 cases pl with
 | none=>obtain⟨p,rfl⟩:=hv;have h:l = []:=h;subst h;exact .sl0 t p
 | some q=>
  obtain⟨b,cap,n⟩:=q;obtain⟨rfl,q2,q3,cur,e,q4,q5,q6⟩:=h;have hv:v = .slice (some ⟨b,0,none⟩) l.length cap:=hv;subst hv
  have key:∀k d,(cells F t l)[k]? = some d→∃x,w.cell? ⟨b,k,none⟩=some x∧Jm w Jg d x:=by
   intro k d hk;have h7:k<(cells F t l).length:=(IS.1 hk).1
   have hlt:k<cur.length:=by rw[aC]at h7;have:l.length*Jf F t≤cap*Jf F t:=MW _ q2;omega
   exact⟨cur[k],by simp[World.cell?,q4,hlt],(q6 k d _ hk (IR hlt)).mono hi (λ_ _=>rfl)⟩
  refine .sl t l b 0 cap (λk=>(w.cell? ⟨b,k,none⟩).getD undef) (hb b _ rfl) q2 q3 ?_ ?_
  ·intro k d hk;obtain⟨x,k1,k2⟩:=key k d hk;rw[LY,k1];rfl
  ·intro k d hk;obtain⟨x,k1,k2⟩:=key k d hk;rw[k1];exact k2
theorem BL{IV Jg:Nat→Prop}(hi:∀b,IV b→Jg b){d:ND F}{x:Value}{pl:Option (Nat×Nat×Nat)}(h:LB w IV d x pl)(hb:∀b c,pl=some (b,c)→Jg b):Jm w Jg d x:=by
 cases d with
 | sl t l=>
  refine xK hi h.1 ?_ h.2;intro b c e
  cases pl with
  | none=>cases e
  | some q=>obtain⟨b',c',n'⟩:=q;simp only[KR,KV,Prod.mk.injEq]at e;exact hb b (c',n') (by rw[← e.1])
 | _=>exact h.2.2.mono hi (λ_ _=>rfl)
theorem xk(hm:Je own g w m){id:Nat}{t:Ty}{l:List (ET F t)}(h:m id=some (.KM t l)){g1:G}(hle:Le g w g1 w)(Kg:∀b,g.blk id b→g1.IV b){b c:Nat}{n:Nat×NS}(hi:g.ids id=some (some (b,c,n))) :
  n.1=l.length∧l.length≤c∧c≤maxLen∧∀k d,(cells F t l)[k]? = some d→∃x,w.cell? ⟨b,k,none⟩=some x∧Jm w g1.IV d x:=by
 obtain⟨k1,k2,k3,k4⟩:=fE hm h hi;refine⟨k1,k2,k3,λk d hk=>?_⟩;obtain⟨x,pl,h1,h2,h3⟩:=k4 k d hk;refine⟨x,h1,BL hle.IV h3 ?_⟩;rintro b' c' rfl;exact Kg b' ⟨b,(c,n),hi,Pw _ (eX h2)⟩
theorem BN(hm:Je own g w m){id:Nat}{t:Ty}{l:List (ET F t)}(h:m id=some (.KM t l)){g1:G}(hle:Le g w g1 w)(Kg:∀b,g.blk id b→g1.IV b){v:Value}(hv:Jz (F:=F) g w (.KP id) v):Jm w g1.IV (.sl t l) v:=by
 rcases a_ hv with⟨hi,p,rfl⟩ | ⟨b,c,n,hi,h1,h2,rfl⟩
 ·obtain⟨pl,k1,k2⟩:=hm.ok id _ h;rw[hi]at k1;cases k1;have k2:l = []:=k2;subst k2;exact .sl0 t p
 ·obtain⟨k1,h4,h5,h7⟩:=xk hm h hle Kg hi;rw[k1];refine .sl t l b 0 c (λk=>(w.cell? ⟨b,k,none⟩).getD undef) (Kg b (G.Kn hi)) h4 h2 ?_ ?_
  ·intro k d hk;obtain⟨x,k1,k2⟩:=h7 k d hk;rw[LY,k1];rfl
  ·intro k d hk;obtain⟨x,k1,k2⟩:=h7 k d hk;rw[k1];exact k2
theorem EX(hm:Je own g w m){id:Nat}{t:Ty}{l:List (ET F t)}(h:m id=some (.row t l)){g1:G}(hle:Le g w g1 w)(Kg:∀b,g.blk id b→g1.IV b){sz off n:Nat}(hsz:sz=Jf F t){v:Value}(hv:Jz (F:=F) g w (.Nr id sz off n) v):Jm w g1.IV (.sl t (sub l off n)) v:=by
 subst hsz;rcases kX hv with⟨hi,rfl,rfl,p,rfl⟩ | ⟨b,c,len,q,hi,h1,h2,h3,h4,rfl⟩
 ·have:sub l 0 0 = []:=by simp[Fx.sub]
  rw[this];exact .sl0 t p
 ·obtain⟨rfl,h5,h7⟩:=bU hm h hi
  have hlen:(sub l off n).length=n:=by simp only[Fx.sub,Ld,Na];omega
  have key:∀(k:Nat)(d:ND F),(cells F t (sub l off n))[k]? = some d→∃x,w.cell? ⟨b,q+k,none⟩=some x∧Jm w g1.IV d x:=by
   intro k d hk;rcases h3 with⟨h3,_⟩ | h3
   ·have h0:n=0:=by omega
    subst h0;simp[Fx.sub,cells]at hk
   ·subst h3;obtain⟨x,k1,k2⟩:=h7 _ _ (gD hk);exact⟨x,k1,k2.le hle⟩
  have:=Jm.sl (F:=F) (w:=w) (IV:=g1.IV) t (sub l off n) b q (c - off) (λk=>(w.cell? ⟨b,q+k,none⟩).getD undef) (Kg b (G.Kn hi)) (by omega) (by omega)
   (λk d hk=>by obtain⟨x,k1,k2⟩:=key k d hk;rw[k1];rfl) (λk d hk=>by obtain⟨x,k1,k2⟩:=key k d hk;rw[k1];exact k2)
  rwa [hlen]at this
theorem zd(hm:Je own g w m)(hle:M6 mm m){x:Ko F}{d:ND F}{ids:List Nat}(h:NT mm x=some (d,ids)){g1:G}(hg:Le g w g1 w)(Kg:∀id∈ids,∀b,g.blk id b→g1.IV b){v:Value}(hv:Jz g w x v):Jm w g1.IV d v:=by
 unfold NT at h;split at h
 ·cases h;exact(bX hv).le hg
 ·have hv:=ub hm hle hv;simp only[SX]at hv;unfold Vn at h;split at h
  ·rename_i hrow;cases h
   exact Ci hm (hle _ _ hrow) hg (Kg _ (by simp)) hv
  ·rename_i hrow;cases h
   exact BN hm (hle _ _ hrow) hg (Kg _ (by simp)) hv
  ·rename_i hrow;cases h;exact(pu hm (hle _ _ hrow) hv).le hg
  ·cases h
 ·split at h
  ·rename_i hrow;split at h
   ·rename_i hsz;cases h
    exact EX hm (hle _ _ hrow) hg (Kg _ (by simp)) hsz hv
   ·cases h
  ·rename_i hrow;split at h
   ·rename_i hsz;cases h;exact(xP hm (hle _ _ hrow) hsz hv).le hg
   ·cases h
  ·cases h
 ·cases h
def Wx(mm:Nat→Option (Jw F))(id:Nat):Prop:=∃t l,mm id=some (.row t l)∨mm id=some (.KM t l)
theorem Wx.owned{id:Nat}(h:Wx mm id):∃B,mm id=some B∧B.owned=true:=by
 obtain⟨t,l,h | h⟩:=h<;>exact⟨_,h,rfl⟩
theorem wO{x:Ko F}{d:ND F}{ids:List Nat}(h:NT mm x=some (d,ids)):∀id∈ids,Wx mm id:=by
 unfold NT at h;split at h
 ·cases h;simp
 ·unfold Vn at h;split at h
  ·rename_i hrow;cases h;intro i hi;rw[IU]at hi;subst hi;exact⟨_,_,.inl hrow⟩
  ·rename_i hrow;cases h;intro i hi;rw[IU]at hi;subst hi;exact⟨_,_,.inr hrow⟩
  ·cases h;simp
  ·cases h
 ·split at h
  ·rename_i hrow;split at h
   ·cases h;intro i hi;rw[IU]at hi;subst hi;exact⟨_,_,.inl hrow⟩
   ·cases h
  ·split at h
   ·cases h;simp
   ·cases h
  ·cases h
 ·cases h
theorem je{x:Ko F}{r:List (Ko F)}{ds:List (ND F)}{ids:List Nat}(h:bM mm (x::r)=some (ds,ids)) :
  ∃d i ds' j,NT mm x=some (d,i)∧bM mm r=some (ds',j)∧ds=d::ds'∧ids=i++j:=by
 simp only[bM]at h;split at h
 ·cases h
 ·rename_i d i hd;split at h
  ·cases h
  ·rename_i ds' j hr;cases h;exact⟨d,i,ds',j,hd,hr,rfl,rfl⟩
theorem kx:∀{cs:List (Ko F)} {ds:List (ND F)} {ids:List Nat},bM mm cs=some (ds,ids)→∀id∈ids,Wx mm id
 | [],ds,ids,h=>by simp only[bM,KV]at h;cases h;simp
 | x::r,ds,ids,h=>by
  obtain⟨d,i,ds',j,h1,h2,rfl,rfl⟩:=je h;intro id hid;rcases Mi.1 hid with hid | hid
  ·exact wO h1 id hid
  ·exact kx h2 id hid
theorem dR:∀{cs:List (Ko F)} {ds:List (ND F)} {ids:List Nat},bM mm cs=some (ds,ids)→ds.length=cs.length
 | [],ds,ids,h=>by simp only[bM,KV]at h;cases h;rfl
 | x::r,ds,ids,h=>by obtain⟨d,i,ds',j,h1,h2,rfl,rfl⟩:=je h;simp[dR h2]
theorem fb(hm:Je own g w m)(hle:M6 mm m):∀{cs:List (Ko F)} {ds:List (ND F)} {ids:List Nat},bM mm cs=some (ds,ids)→∀{g1:G},Le g w g1 w→(∀id∈ids,∀b,g.blk id b→g1.IV b)→
  ∀(vs:List Value),(∀(k:Nat)(x:Ko F)(v:Value),cs[k]? = some x→vs[k]? = some v→Jz g w x v)→∀(k:Nat)(d:ND F)(v:Value),ds[k]? = some d→vs[k]? = some v→Jm w g1.IV d v
 | [],ds,ids,h,g1,_,_,vs,_,k,d,v,hd,_=>by simp only[bM,KV]at h;cases h;simp at hd
 | x::r,ds,ids,h,g1,hg,Kg,vs,hr,k,d,v,hd,hv=>by
  obtain⟨d',i,ds',j,h1,h2,rfl,rfl⟩:=je h
  match vs,hv with
  | [],hv=>simp at hv
  | u::us,hv=>
   cases k with
   | zero=>
    simp only[M4,KV]at hd hv;subst hd hv
    exact zd hm hle h1 hg (λid hid=>Kg id (by simp[hid])) (hr 0 x u rfl rfl)
   | succ k=>
    exact fb hm hle h2 hg (λid hid=>Kg id (by simp[hid])) us (λk x v a b=>hr (k+1) x v a b) k d v (by simpa using hd) (by simpa using hv)
def NH(mm:Nat→Option (Jw F))(ids:List Nat):Prop:=
 ∀id∈ids,Wx mm id∨(∃cs ds fz,mm id=some (.box cs)∧bM mm cs=some (ds,fz)∧∀x∈fz,x∈ids)∨∃cs,mm id=some (.box cs)∧(0:Nat)=0
theorem NH.MB{ids:List Nat}(h:∀id∈ids,Wx mm id):NH mm ids:=λid hid=>.inl (h id hid)
theorem tY{ids:List Nat}{id:Nat}{t:Ty}{l:List (ET F t)}(h:mm id=some (.row t l)):PL mm ids id=some (.Oz t l):=by simp[PL,h]
theorem wT{ids:List Nat}{id:Nat}{t:Ty}{l:List (ET F t)}(h:mm id=some (.KM t l)):PL mm ids id=some (.Oz t l):=by simp[PL,h]
theorem ux{ids:List Nat}{id:Nat}{cs:List (Ko F)}{B:Jw F}(h:mm id=some (.box cs))(hB:PL mm ids id=some B):∃ds fz,bM mm cs=some (ds,fz)∧(∀x∈fz,x∈ids)∧B = .Ww ds:=by
 unfold PL at hB;rw[h]at hB;dsimp only at hB;split at hB
 ·rename_i ds fz hc
  cases ha:fz.all (λx=>Jp x ids)with
  | false=>rw[ha]at hB;cases hB
  | true=>rw[ha]at hB;cases hB;refine⟨ds,fz,hc,λx hx=>?_,rfl⟩;have:=N9.1 ha x hx;exact aK.1 this
 ·cases hB
theorem fV{ids:List Nat}{x:Nat}:Kc m (SK mm ids) x=if x∈ids then PL mm ids x else m x:=by
 unfold SK
 have gen:∀(B:Nat→Option (Jw F)) (ids:List Nat) (m:Nat→Option (Jw F)),Kc m (ids.map λid=>(id,B id)) x=if x∈ids then B x else m x:=by
  intro B ids
  induction ids with
  | nil=>intro m;simp[Kc]
  | cons i ids ih=>
   intro m;simp only[KZ,Kc,ih,Li];by_cases h1:x∈ids
   ·simp[h1]
   ·by_cases h2:x=i
    ·subst h2;simp
    ·rw[aj (λe=>h2 e.symm)];simp[h1,h2]
 exact gen (PL mm ids) ids m
theorem freeze(hm:Je own g w m)(hle:M6 mm m){ids:List Nat}(hf:NH mm ids):Je own (g.Nj ids) w (Kc m (SK mm ids)):=by
 refine hm.Ml (S:=λid=>id∈ids) (mb g w ids) ?_ (λ_ _=>rfl) ?_ ?_ ?_ ?_ hm.len
 ·intro id hid B hB;rw[fV,if_neg hid]at hB;exact hB
 ·intro id B b hid hB ho hb;refine⟨rfl,?_⟩;rintro(hi | ⟨id',K8,hb'⟩)
  ·exact(hm.own id B b hB ho hb).2 hi
  ·have Rt:∃B',m id'=some B'∧B'.owned=true:=by
    rcases hf id' K8 with⟨t,l,h | h⟩ | ⟨cs,ds,fz,h,_⟩ | ⟨cs,h,_⟩
    ·exact⟨_,hle _ _ h,rfl⟩
    ·exact⟨_,hle _ _ h,rfl⟩
    ·exact⟨_,hle _ _ h,rfl⟩
    ·exact⟨_,hle _ _ h,rfl⟩
   obtain⟨B',h1,h2⟩:=Rt;have:=hm.Ou id id' B B' b hB h1 ho h2 hb hb';subst this;exact hid K8
 ·intro id B hid hB;rw[fV,if_pos hid]at hB
  have hf':Wx mm id∨∃cs,mm id=some (.box cs):=by
   rcases hf id hid with h | ⟨cs,ds,fz,h,_⟩ | ⟨cs,h,_⟩
   ·exact .inl h
   ·exact .inr ⟨_,h⟩
   ·exact .inr ⟨_,h⟩
  rcases hf' with⟨t,l,h | h⟩ | ⟨cs,h⟩
  ·rw[tY h]at hB;cases hB
   refine⟨?_,λb ho=>by cases ho⟩
   rcases hm.ok id _ (hle _ _ h)with⟨k1,k2⟩ | ⟨b,cap,cur,e,k1,k2,k3,k4,k5,k6⟩
   ·exact .inl ⟨k1,k2⟩
   ·obtain⟨_,h4,h7⟩:=bU hm (hle _ _ h) k1
    refine .inr ⟨b,cap,[],k1,by simp[Km],.inr ⟨id,hid,G.Kn k1⟩,k3,k4,λk d hk=>?_⟩
    obtain⟨x,q1,q2⟩:=h7 k d hk;exact⟨x,q1,q2.le (mb g w ids)⟩
  ·rw[wT h]at hB;cases hB
   refine⟨?_,λb ho=>by cases ho⟩
   obtain⟨pl,k1,k2⟩:=hm.ok id _ (hle _ _ h)
   cases pl with
   | none=>exact .inl ⟨k1,k2⟩
   | some q=>obtain⟨b,cap,n,ns⟩:=q;obtain⟨q1,q2,q3,q4⟩:=xk hm (hle _ _ h) (mb g w ids) (λb hb=>.inr ⟨id,hid,hb⟩) k1;have q1:n=l.length:=q1;subst q1;exact .inr ⟨b,cap,ns,k1,λb' hb'=>.inr ⟨id,hid,b,_,k1,Pw _ hb'⟩,.inr ⟨id,hid,G.Kn k1⟩,q2,q3,q4⟩
  ·obtain⟨ds,fz,hc,hfz,rfl⟩:=ux h hB
   refine⟨?_,λb ho=>by cases ho⟩
   obtain⟨b,c,arr,t,k1,k2,k3,k4⟩:=hm.ok id _ (hle _ _ h);refine⟨b,c,k1,.inr ⟨id,hid,G.Kn k1⟩,λk d hk=>?_⟩
   have hlt:k<arr.length:=by rw[k3,← dR hc];exact(IS.1 hk).1
   refine⟨arr[k],by simp[World.cell?,k2,hlt],?_⟩
   exact fb hm hle hc (mb g w ids) (λid' K8 b' hb'=>.inr ⟨id',hfz id' K8,hb'⟩) arr k4 k d _ hk (IR hlt)
 ·rintro b (hb | ⟨id,hid,hb⟩)
  ·exact hm.IV b hb
  ·rcases hf id hid with⟨t,l,h | h⟩ | ⟨cs,ds,fz,h,_⟩ | ⟨cs,h,_⟩
   ·exact(hm.ok id _ (hle _ _ h)).place hm.IV rfl hb
   ·exact(hm.ok id _ (hle _ _ h)).place hm.IV rfl hb
   ·exact(hm.ok id _ (hle _ _ h)).place hm.IV rfl hb
   ·exact(hm.ok id _ (hle _ _ h)).place hm.IV rfl hb
 ·rintro b (hb | ⟨id,hid,hb⟩)
  ·exact hm.io b hb
  ·rcases hf id hid with⟨t,l,h | h⟩ | ⟨cs,ds,fz,h,_⟩ | ⟨cs,h,_⟩
   ·exact .inr (hm.own id _ b (hle _ _ h) rfl hb).1
   ·exact .inr (hm.own id _ b (hle _ _ h) rfl hb).1
   ·exact .inr (hm.own id _ b (hle _ _ h) rfl hb).1
   ·exact .inr (hm.own id _ b (hle _ _ h) rfl hb).1
theorem Gf(hle:M6 mm m){ids:List Nat}(hf:NH mm ids)(hs:Stp (Kc m (SK mm ids)) (g.Nj ids) w g' w'):Stp m g w g' w':=by
 refine⟨(mb g w ids).trans hs.le,hs.os,hs.tape,hs.output,hs.size,λb hb hno=>hs.frame b hb (λid B hB ho hk=>?_),hs.drawn⟩;rw[fV]at hB;split at hB
 ·rename_i hid;rcases hf id hid with⟨t,l,h | h⟩ | ⟨cs,ds,fz,h,hc,_⟩ | ⟨cs,h,hc⟩
  ·rw[tY h]at hB;cases hB;cases ho
  ·rw[wT h]at hB;cases hB;cases ho
  ·obtain⟨ds,fz,_,_,rfl⟩:=ux h hB;cases ho
  ·obtain⟨ds,fz,_,_,rfl⟩:=ux h hB;cases ho
 ·exact hno id B hB ho hk
theorem xS{u:Nat→Bool}{a:Act}{ids:List Nat}{res:Oq F}(hle:M6 mm m)(hf:NH mm ids)(h:M0 P own (Kc m (SK mm ids)) u (g.Nj ids) w o a c res) :
  M0 P own m u g w o a c { res with mw:=SK mm ids++res.mw }:=by
 intro next Q hn;refine h next Q ?_;intro v w' g' h1 h2 h3 h4
 exact hn v w' g' h1 (by rw[dC];exact h2) (Gf hle hf h3) h4
def G.name(g:G)(id:Nat)(p:Pl):G:=⟨λx=>if x=id then some p else g.ids x,g.IV,g.len⟩
theorem a9(g:G)(id:Nat)(p:Pl):(g.name id p).ids id=some p:=by simp[G.name]
theorem bE(g:G)(id:Nat)(p:Pl){x:Nat}(h:x≠id):(g.name id p).ids x=g.ids x:=by simp[G.name,h]
theorem Le.name{id:Nat}{p:Pl}(hf:g.ids id=none)(hh:∀b,g.IV b→w'.heap[b]? = w.heap[b]?)(hL:∀b,g.len b→w'.heap[b]? = w.heap[b]?):Le g w (g.name id p) w':=by
 refine⟨?_,λ_ h=>h,hh,λ_ h=>h,hL⟩;intro x r hx;by_cases hxi:x=id
 ·subst hxi;rw[hf]at hx;cases hx
 ·rw[bE g id p hxi];exact hx
theorem oW{rm:List Nat}{id:Nat}{B:Jw F}{x:Nat}(hx:x≠id){B':Jw F}(h:Kc m (rm.map (λr=>(r,none))++[(id,some B)]) x=some B'):m x=some B'∧x∉rm:=by
 rw[o_,if_neg hx]at h
 have gen:∀(rm:List Nat)(m:Nat→Option (Jw F)),Kc m (rm.map (λr=>(r,none))) x=some B'→m x=some B'∧x∉rm:=by
  intro rm
  induction rm with
  | nil=>intro m h;exact⟨h,by simp⟩
  | cons r rm ih=>
   intro m h;obtain⟨h1,h2⟩:=ih _ h;by_cases hr:r=x
   ·subst hr;rw[if_pos (bc r)]at h1;cases h1
   ·rw[if_neg (by rw[aj hr];simp)]at h1
    exact⟨h1,λhx=>by rcases Li.1 hx with h | h;exact hr h.symm;exact h2 h⟩
 exact gen rm m h
theorem fT(hm:Je own g w m){rm:List Nat}{id:Nat}{pl:Pl}{B:Jw F}(hf:g.ids id=none)
  (hpl:∀b0 c,pl=some (b0,c)→∀b∈b0::Km c.2.2,(w.heap.size≤b∧b<w'.heap.size∧own.o b)∨∃r∈rm,∃B0,m r=some B0∧B0.owned=true∧g.blk r b)
  (ho:w'.os=w.os) (ht:w'.tape=w.tape) (hou:w'.output=w.output) (hdr:w.drawn≤w'.drawn) (hs:w.heap.size≤w'.heap.size)
  (hne:∀b,b<w.heap.size→(∀r∈rm,∀B0,m r=some B0→B0.owned=true→¬ g.blk r b)→w'.heap[b]? = w.heap[b]?)
  (hB:∀g',Le g w g' w'→g'.ids id=some pl→KL g' w' id B) :
  Je own (g.name id pl) w' (Kc m (rm.map (λr=>(r,none))++[(id,some B)]))∧Stp m g w (g.name id pl) w':=by
 have hle:Le g w (g.name id pl) w':=.name hf (λb hb=>hne b (hm.IV b hb) (λr _ B0 h1 h2 h3=>(hm.own r B0 b h1 h2 h3).2 hb)) (λb hb=>hne b (hm.len b hb).2 (λr _ B0 h1 h2 h3=>(hm.len b hb).1 (hm.own r B0 b h1 h2 h3).1));refine⟨?_,hle,ho,ht,hou,hs,λb hb hno=>hne b hb (λr _ B0 h1 h2=>hno r B0 h1 h2),hdr⟩;refine hm.Ml (S:=λx=>x=id∨x∈rm) hle (λx hx B' h=>(oW (λe=>hx (.inl e)) h).1) (λx hx=>bE _ _ _ (λe=>hx (.inl e))) ?_ ?_ (λb hb=>OZ (hm.IV b hb) hs) hm.io (λb hb=>⟨(hm.len b hb).1,OZ (hm.len b hb).2 hs⟩)
 ·intro x Bx b hx hB' ho' hb;refine⟨hne b ((hm.ok x Bx hB').place hm.IV (Jw.MQ ho') hb) ?_,(hm.own x Bx b hB' ho' hb).2⟩;intro r hr B0 h1 h2 h3;have:=hm.Ou x r Bx B0 b hB' h1 ho' h2 hb h3;subst this;exact hx (.inr hr)
 ·intro x B' hx hB'
  have anw:x=id:=by
   by_cases hxi:x=id
   ·exact hxi
   ·rcases hx with hx | hx
    ·exact hx
    ·exact absurd hx (oW hxi hB').2
  subst anw;rw[o_,if_pos rfl]at hB';cases hB';refine⟨hB _ hle (a9 _ _ _),?_⟩;rintro b Zo ⟨b0,c',hc',hbb⟩;rw[a9]at hc';cases hc';rcases hpl b0 c' rfl b hbb with⟨h1,h2,h3⟩ | ⟨r,hr,B0,h1,h2,h3⟩
  ·refine⟨h3,λhb=>?_,?_⟩
   ·have:b<w.heap.size:=hm.IV b hb;omega
   ·rintro y By hy hoy hby;by_cases hyx:y=x
    ·exact hyx
    ·have aak:g.blk y b:=by
      obtain⟨b1,c1,k1,k2⟩:=hby;rw[bE _ _ _ hyx]at k1;exact⟨b1,c1,k1,k2⟩
     have:=(hm.ok y By (oW hyx hy).1).place hm.IV (Jw.MQ hoy) aak;omega
  ·refine⟨(hm.own r B0 b h1 h2 h3).1,(hm.own r B0 b h1 h2 h3).2,?_⟩;rintro y By hy hoy hby;by_cases hyx:y=x
   ·exact hyx
   ·have aak:g.blk y b:=by
     obtain⟨b1,c1,k1,k2⟩:=hby;rw[bE _ _ _ hyx]at k1;exact⟨b1,c1,k1,k2⟩
    obtain⟨q1,q2⟩:=oW hyx hy;have:=hm.Ou y r By B0 b q1 h1 hoy h2 aak h3;subst this;exact absurd hr q2
theorem made(hm:Je own g w m){rm:List Nat}{id:Nat}{cn:Nat×Nat}{arr:List Value}{t:TypeId}{B:Jw F}(hf:g.ids id=none)(hown:own.o w.heap.size){w1:World}(hw1:w1.heap=w.heap)(ho:w1.os=w.os)(ht:w1.tape=w.tape)(hou:w1.output=w.output)(hdr:w.drawn≤w1.drawn)
  (hB:∀g' w',Le g w g' w'→g'.ids id=some (some (w.heap.size,cn.1,cn.2,[]))→w'.heap[w.heap.size]? = some (.cells ⟨arr⟩ t (0,0))→KL g' w' id B) :
  Je own (g.name id (some (w.heap.size,cn.1,cn.2,[]))) (w1.alloc (.cells ⟨arr⟩ t)) (Kc m (rm.map (λr=>(r,none))++[(id,some B)]))∧Stp m g w (g.name id (some (w.heap.size,cn.1,cn.2,[]))) (w1.alloc (.cells ⟨arr⟩ t)):=by
 have hold:∀b,b<w.heap.size→(w1.alloc (.cells ⟨arr⟩ t)).heap[b]? = w.heap[b]?:=by
  intro b hb
  have:=heap_alloc_old w1 (.cells ⟨arr⟩ t) b (by rw[hw1];exact hb)
  rw[this,hw1]
 have hnew:(w1.alloc (.cells ⟨arr⟩ t)).heap[w.heap.size]? = some (.cells ⟨arr⟩ t (0,0)):=by have:=heap_alloc_new w1 (.cells ⟨arr⟩ t);rw[hw1]at this;exact this
 have hsz:(w1.alloc (.cells ⟨arr⟩ t)).heap.size=w.heap.size+1:=by rw[World.size_alloc,hw1]
 refine fT hm hf ?_ ho ht hou hdr (by omega) (λb hb _=>hold b hb) (λg' hle hi=>hB g' _ hle hi hnew)
 intro b0 c e b hb;cases e;simp only[Km,IU]at hb;subst hb
 exact .inl ⟨Ku _,by omega,hown⟩
theorem moved(hm:Je own g w m){rm id b:Nat}{cn:Nat×Nat×NS}{RN:Nat×Nat}{w':World}{B0 B:Jw F}(hf:g.ids id=none)(h0:m rm=some B0)(ho0:B0.owned=true)(hi:g.ids rm=some (some (b,cn)))
  (ho:w'.os=w.os) (ht:w'.tape=w.tape) (hou:w'.output=w.output) (hdr:w.drawn≤w'.drawn) (hs:w'.heap.size=w.heap.size) (hne:∀b',b'≠b→w'.heap[b']? = w.heap[b']?)
  (hB:∀g',Le g w g' w'→g'.ids id=some (some (b,RN.1,RN.2,[]))→KL g' w' id B) :
  Je own (g.name id (some (b,RN.1,RN.2,[]))) w' (Kc m [(rm,none),(id,some B)])∧Stp m g w (g.name id (some (b,RN.1,RN.2,[]))) w':=by
 refine fT (rm:=[rm]) hm hf ?_ ho ht hou hdr (by omega) ?_ hB
 ·intro b0 c e b' hb;cases e;simp only[Km,IU]at hb;subst hb
  exact .inr ⟨rm,by simp,B0,h0,ho0,G.Kn hi⟩
 ·intro b' hb hno
  exact hne b' (λe=>hno rm (by simp) B0 h0 ho0 (e▸G.Kn hi))
theorem EM(hm:Je own g w m){rm:List Nat}{id:Nat}{t:Ty}(hf:g.ids id=none) :
  Je own (g.name id none) w (Kc m (rm.map (λr=>(r,none))++[(id,some (.row t []))]))∧Stp m g w (g.name id none) w:=by
 have hle:Le g w (g.name id none) w:=.name hf (λ_ _=>rfl) (λ_ _=>rfl)
 have less:∀x,x≠id→∀B',Kc m (rm.map (λr=>(r,none))++[(id,some (.row t []))]) x=some B'→m x=some B':=by
  intro x hx B' h;rw[o_,if_neg hx]at h
  have gen:∀(rm:List Nat)(m:Nat→Option (Jw F)),Kc m (rm.map (λr=>(r,none))) x=some B'→m x=some B':=by
   intro rm
   induction rm with
   | nil=>intro m h;exact h
   | cons r rm ih=>
    intro m h;have:=ih _ h;split at this
    ·cases this
    ·exact this
  exact gen rm m h
 refine⟨?_,hle,rfl,rfl,rfl,Ku _,λ_ _ _=>rfl,Ku _⟩;refine hm.Ml (S:=λx=>x=id) hle less (λx hx=>bE _ _ _ hx) ?_ ?_ hm.IV hm.io hm.len
 ·intro x Bx b hx hB' ho' hb;exact⟨rfl,(hm.own x Bx b hB' ho' hb).2⟩
 ·rintro x B' rfl hB';rw[o_,if_pos rfl]at hB';cases hB';refine⟨.inl ⟨a9 _ _ _,rfl⟩,?_⟩;rintro b _ ⟨b0,c',hc',_⟩;rw[a9]at hc';cases hc'
theorem xC(hm:Je own g w m){id b:Nat}{old arr:List Value}{t:TypeId}{B B':Jw F}(hB:m id=some B)(ho:B.owned=true)(hblk:g.blk id b)(hb:w.heap[b]? = some (.cells ⟨old⟩ t (0,0)))
  (hB':(w.setRow b ⟨arr⟩).heap[b]? = some (.cells ⟨arr⟩ t (0,0))→Le g w g (w.setRow b ⟨arr⟩)→KL g (w.setRow b ⟨arr⟩) id B') :
  Je own g (w.setRow b ⟨arr⟩) (Kc m [(id,some B')])∧Stp m g w g (w.setRow b ⟨arr⟩):=by
 have hne:∀b',b'≠b→(w.setRow b ⟨arr⟩).heap[b']? = w.heap[b']?:=λb' h=>setRow_other w b b' _ h;have Sk:¬ g.IV b:=(hm.own id B b hB ho hblk).2;have hle:Le g w g (w.setRow b ⟨arr⟩):=⟨λ_ _ h=>h,λ_ h=>h,λb' hb'=>hne b' (λe=>Sk (e▸hb')),λ_ h=>h,λb' hb'=>hne b' (λe=>(hm.len b' hb').1 (e▸(hm.own id B b hB ho hblk).1))⟩
 have less:∀x,x≠id→∀Bx,Kc m [(id,some B')] x=some Bx→m x=some Bx:=by intro x hx Bx h;simp only[Kc]at h;rw[aj (λe=>hx e.symm)]at h;simpa using h
 refine⟨?_,hle,rfl,rfl,rfl,by simp,?_,Ku _⟩
 ·refine hm.Ml (S:=λx=>x=id) hle less (λ_ _=>rfl) ?_ ?_ ?_ hm.io (λb' hb'=>⟨(hm.len b' hb').1,by rw[size_setRow];exact(hm.len b' hb').2⟩)
  ·intro x Bx b' hx hBx hox hbx;refine⟨hne b' (λe=>hx ?_),(hm.own x Bx b' hBx hox hbx).2⟩;subst e;exact hm.Ou x id Bx B b' hBx hB hox ho hbx hblk
  ·rintro x Bx rfl hBx;simp only[Kc,bc,if_true,KV]at hBx;subst hBx;refine⟨hB' (setRow_heap w b _ _ t _ hb) hle,?_⟩;rintro b' Zo hb';refine⟨(hm.own x B b' hB ho hb').1,(hm.own x B b' hB ho hb').2,?_⟩;intro y By hy hoy hby;by_cases hyx:y=x
   ·exact hyx
   ·exact hm.Ou y x By B b' (less y hyx By hy) hB hoy ho hby hb'
  ·intro b' hb';rw[size_setRow];exact hm.IV b' hb'
 ·intro b' _ hno;exact hne b' (λe=>hno id B hB ho (e▸hblk))
theorem sD(hm:Je own g w m){id b:Nat}{cn:Nat×Nat×NS}{old arr:List Value}{t:TypeId}{B B':Jw F}(hB:m id=some B)(ho:B.owned=true)(hi:g.ids id=some (some (b,cn)))(hb:w.heap[b]? = some (.cells ⟨old⟩ t (0,0)))
  (hB':(w.setRow b ⟨arr⟩).heap[b]? = some (.cells ⟨arr⟩ t (0,0))→Le g w g (w.setRow b ⟨arr⟩)→KL g (w.setRow b ⟨arr⟩) id B') :
  Je own g (w.setRow b ⟨arr⟩) (Kc m [(id,some B')])∧Stp m g w g (w.setRow b ⟨arr⟩):=xC hm hB ho (G.Kn hi) hb hB'
end
set_option linter.unusedVariables false
set_option linter.unusedSimpArgs false
section
variable{F:Fam}{P:Program}{T:TypeId→Option (TI F)}{o:Oper}{vals:List (Dat F)}{mm:Nat→Option (Jw F)}{c:Nat}{R:Type}{K:Oq F→Option R}{own:Ow}{g g':G}{w w':World}{m m':Nat→Option (Jw F)}{u:Nat→Bool}{a:Act}
theorem mc(hm:Je own g w m)(hd:∀id,u id=false→g.ids id=none)(hall:∀b,w.heap.size≤b→own.o b)(hfr:u c=false)
  {cn:Nat×Nat} {arr:List Value} {t:TypeId} {B:Jw F} {rm:List Nat} {d:Dat F} {w1:World} {v:Value} (hw1:w1.heap=w.heap) (ho:w1.os=w.os) (ht:w1.tape=w.tape) (hou:w1.output=w.output) (hdr:w.drawn≤w1.drawn)
  (hv:∀g' w',g'.ids c=some (some (w.heap.size,cn.1,cn.2,[]))→Jr P g' w' d v)
  (hB:∀g' w',Le g w g' w'→g'.ids c=some (some (w.heap.size,cn.1,cn.2,[]))→w'.heap[w.heap.size]? = some (.cells ⟨arr⟩ t (0,0))→KL g' w' c B)
  (hrun:(execOp a.eval o).run P w = .ok (.value v) (w1.alloc (.cells ⟨arr⟩ t))):M0 P own m u g w o a c { val:=d,mw:=rm.map (λr=>(r,none))++[(c,some B)],nu:=1 }:=by
 have hf:g.ids c=none:=hd c hfr;obtain⟨k1,k2⟩:=made (rm:=rm) (cn:=cn) hm hf (hall _ (Ku _)) hw1 ho ht hou hdr hB;intro next Q hn;unfold Oper.wp;rw[hrun];refine hn _ _ (g.name c (some (w.heap.size,cn.1,cn.2,[]))) (hv _ _ (a9 _ _ _)) k1 k2 ?_;intro x hu hx;have hx:x<c∨c+1≤x:=hx
 have:x≠c:=by omega
 rw[bE _ _ _ this];exact hd x hu
theorem sG{IV:Nat→Prop}{cs ds:List (ND F)}(h:OJ cs ds){arr:List Value}(hr:∀(k:Nat)(d:ND F)(x:Value),cs[k]? = some d→arr[k]? = some x→Jm w IV d x) :
  ∀(k:Nat)(d:ND F)(x:Value),ds[k]? = some d→arr[k]? = some x→Jm w IV d x:=by
 intro k d x hd hx
 have hlt:k<cs.length:=by rw[h.1];exact(IS.1 hd).1
 exact(hr k _ x (IR hlt) hx).Uh (h.2 k _ d (IR hlt) hd)
theorem jV{cs ds cs' ds':List (ND F)}(h:OJ cs ds)(h':OJ cs' ds'):OJ (cs++cs') (ds++ds'):=by
 refine⟨by simp[h.1,h'.1],?_⟩
 intro k x y hx hy;by_cases hk:k<cs.length
 ·rw[Mv hk]at hx
  rw[Mv (by rw[← h.1];exact hk)]at hy
  exact h.2 k x y hx hy
 ·rw[Nc (by omega)]at hx
  rw[Nc (by rw[← h.1];omega),← h.1]at hy
  exact h'.2 _ x y hx hy
theorem lP{tt:Ty}{sz:Nat}(hs:Jf F tt=sz):∀{n:Nat}{ds:List (ND F)} {l:List (ET F tt)},iZ tt sz n ds=some l→ds.length=n*sz→l.length=n∧OJ ds (cells F tt l)
 | 0,ds,l,h,hl=>by
  simp only[iZ,KV]at h;subst h
  have:ds = []:=O1 (by simpa using hl)
  subst this
  exact⟨rfl,rfl,by simp⟩
 | n+1,ds,l,h,hl=>by
  simp only[iZ]at h;split at h
  ·cases h
  ·rename_i x hx;split at h
   ·cases h
   ·rename_i r hr;cases h
    have hlen:(ds.drop sz).length=n*sz:=by rw[Na,hl,Rh];omega
    obtain⟨h1,h2⟩:=lP hs hr hlen
    refine⟨by simp[h1],?_⟩
    have:=jV (bK F hx) h2;rw[Uo]at this;simpa[cells]using this
theorem DV(hT:Js P T)(hm:Je own g w m)(hle:M6 mm m)(hd:∀id,u id=false→g.ids id=none)(hall:∀b,w.heap.size≤b→own.o b)(hfr:u c=false){elem:TypeId}{cs:List (Ko F)}{v:Value}
  (hl:v.cells.toList.length=cs.length) (hr:∀(k:Nat)(x:Ko F)(y:Value),cs[k]? = some x→v.cells.toList[k]? = some y→Jz g w x y)
  (hrun:(execOp a.eval o).run P w = .ok (.value (.pointer (some ⟨w.heap.size,0,none⟩))) (w.alloc (.cells v.cells elem))):M0 P own m u g w o a c { val:=.c (.ptr c 0),mw:=[(c,some (.box cs))],nu:=1 }:=by
 refine mc (rm:=[]) (cn:=(0,0)) (arr:=v.cells.toList) (t:=elem) hm hd hall hfr (w1:=w) rfl rfl rfl rfl (Ku _) (λg' w' hi=>.c (.ptr hi)) ?_ hrun;intro g' w' hle hi hh;exact⟨w.heap.size,(0,0),v.cells.toList,elem,hi,hh,hl,λk c x h1 h2=>(hr k c x h1 h2).le hle⟩
theorem wP(hT:Js P T){elem:TypeId}{cs:List (Ko F)}
  (hsrc:cs.all Ko.Nu=true→0<cs.length→∀(g:G)(w:World)(a:Act),Kl P g w vals (o.op.operands.toList.map a.eval)→∃v:Value,v.cells.toList.length=cs.length∧
   (∀(k:Nat)(x:Ko F)(y:Value),cs[k]? = some x→v.cells.toList[k]? = some y→Jz g w x y)∧(execOp a.eval o).run P w = .ok (.value (.pointer (some ⟨w.heap.size,0,none⟩))) (w.alloc (.cells v.cells elem))) :
  Rule P o vals mm c K (Ur T mm c K elem cs):=by
 unfold Ur;split
 ·exact ah
 ·rename_i ti hti;refine au (λhc=>?_) (λ_=>ah);simp only[KQ,decide_eq_true_eq,MV]at hc;obtain⟨⟨h1,h2⟩,h3⟩:=hc;have src:=hsrc h2 h3
  have aoJ:Rule P o vals mm c K (K { val:=.c (.ptr c 0),mw:=[(c,some (.box cs))],nu:=1 }):=by
   intro r hr;refine⟨_,hr,?_⟩;intro own g w a m u hle hm hd hall hfr hrep;obtain⟨v,k1,k2,k3⟩:=src g w a hrep
   exact DV hT hm hle hd hall (hfr 0 (by simp)) k1 k2 k3
  split
  ·rename_i len e hde;split
   ·exact ah
   ·rename_i te hte;split
    ·exact ah
    ·rename_i tt Rz;split
     ·exact ah
     ·rename_i ds fz hds;split
      ·exact ah
      ·rename_i l hl;refine au (λ_=>ah) (λhc=>?_);simp only[Pt,decide_eq_true_eq,bne_iff_ne,ne_eq,not_or,Decidable.not_not,Rj,QeG]at hc;obtain⟨⟨⟨⟨c1,c2⟩,c3⟩,c4⟩,c5⟩:=hc
       have c4:=PX (by simpa using c4)
       have c5:fz = []:=by simpa using c5
       subst c5;intro r hr;refine⟨_,hr,?_⟩;intro own g w a m u hle hm hd hall hfr hrep;obtain⟨v,k1,k2,k3⟩:=src g w a hrep;obtain⟨q1,q2⟩:=lP c3 hl c2
       refine mc (rm:=[]) (cn:=(len,l.length)) (arr:=v.cells.toList) (t:=elem) hm hd hall (hfr 0 (by simp)) (w1:=w) rfl rfl rfl rfl (Ku _) (λg' w' hi=>.c (.ptr hi)) ?_ k3
       intro g' w' hle' hi hh
       refine .inr ⟨w.heap.size,len,v.cells.toList,elem,hi,hh,by omega,by simp only[maxLen];omega,?_,?_⟩
       ·rw[k1,← dR hds,c2,c3]
       ·intro k d x h4 h5
        exact(sG q2 (fb hm hle hds (Le.refl g w) (by simp) v.cells.toList k2) k d x h4 h5).le hle'
  ·exact aoJ
theorem BD(hT:Js P T){elem:TypeId}(ho:o.op = .alloc elem):Rule P o vals mm c K (match T elem with | some ti=>Ur T mm c K elem (ti.zero.map .im) | none=>none):=by
 split
 ·rename_i ti hti;refine wP hT ?_;intro _ _ g w a _;obtain⟨j,z,hj,hz,hzl,WI⟩:=vC hT hti
  exact⟨z,hzl,WI w g,by simp[execOp,ho,Instr.alloc,zeroValue,typeInfo,hj,hz,newVar,newRow]⟩
 ·exact ah
theorem Fy(hT:Js P T){elem:TypeId}{x:Operand}(ho:o.op = .box elem x):Rule P o vals mm c K (match vals with | [x]=>Ur T mm c K elem x.cells | _=>none):=by
 split
 ·rename_i d;refine wP hT ?_;intro h1 h2 g w a hr;rw[ho]at hr;obtain⟨k1,k2,_⟩:=g9 (KT hr) h1 h2
  exact⟨a.eval x,k1,k2,by simp[execOp,ho,Instr.box,newVar,newRow]⟩
 ·exact ah
theorem cP{α : Type}(l:List α)(h0:0<l.length):∀(n k:Nat),k<n*l.length→(List.replicate n l).flatten[k]? = l[k % l.length]?
 | 0,k,h=>by omega
 | n+1,k,h=>by
  simp only[List.replicate_succ,U2];by_cases hk:k<l.length
  ·rw[Mv hk,Nat.mod_eq_of_lt hk]
  ·have hb:k - l.length<n*l.length:=by rw[Rh]at h;omega
   rw[Nc (by omega),cP l h0 n (k - l.length) hb]
   congr 1
   exact(Nat.mod_eq_sub_mod (by omega)).symm
theorem pq(hT:Js P T){e:TypeId}{te:TI F}(he:T e=some te)(h0:0<te.size)(n:Nat):∃(j:TypeInfo)(z:Value),P.info? e=some j∧j.size=te.size∧j.bytes=te.bytes∧j.zero=some z∧z.cells.size=te.size∧
  (madeCells z.cells (n*te.size)).toList.length=(List.replicate n te.zero).flatten.length∧te.zero.length=te.size∧
  ∀(w:World)(IV:Nat→Prop)(k:Nat)(d:ND F) (x:Value),(List.replicate n te.zero).flatten[k]? = some d→(madeCells z.cells (n*te.size)).toList[k]? = some x→Jm w IV d x:=by
 obtain⟨j,hj,hs,hb,z,hz,hzs,hzl,hr⟩:=hT.info e te he
 have hfl:(List.replicate n te.zero).flatten.length=n*te.size:=by
  rw[qQ (sz:=te.size) (λx hx=>by rw[QeZ]at hx;rw[hx.2,hzl])]
  simp
 refine⟨j,z,hj,hs,hb,hz,hzs,by rw[hfl];simp[madeCells],hzl,?_⟩
 intro w IV k d x h1 h2
 have hk:k<n*te.size:=by rw[← hfl];exact(IS.1 h1).1
 rw[cP te.zero (by omega) n k (by rw[hzl];exact hk),hzl]at h1
 simp only[madeCells,Array.toList_map,MN,Array.toList_range]at h2;rw[QeV hk]at h2;simp only[SN,KV]at h2
 have hlt:k % te.size<z.cells.size:=by rw[hzs];exact Nat.mod_lt _ h0
 rw[hzs,getElem!_pos z.cells (k % te.size) hlt]at h2
 exact hr w IV (k % te.size) d x h1 (by rw[QcX hlt,h2])
theorem Ie{α : Type}{b:Nat}{n m:Int}{z:α}{r:List α}(h:PV b n m z=some r):0≤n∧n≤m∧m.toNat≤maxLen∧b*m.toNat≤281474976710656∧r=List.replicate n.toNat z:=by
 unfold PV at h;split at h
 ·rename_i hc;cases h;exact⟨hc.1,hc.2.1,hc.2.2.1,hc.2.2.2,rfl⟩
 ·cases h
theorem xe(hT:Js P T){t:TypeId}{x y:Operand}(ho:o.op = .makeSlice t x y):Rule P o vals mm c K (Tz T vals c K t):=by
 unfold Tz;split
 ·rename_i e _ _ _ _ _ ht;split
  ·exact ah
  ·rename_i te hte;split
   ·exact ah
   ·rename_i tt Rz;refine au (λ_=>ah) (λhz0=>?_);split
    ·rename_i k n k' n' zz hzz;refine aD λl hl=>?_;obtain⟨v1,v2,v3,v4,rfl⟩:=Ie hl;intro r hr;refine⟨_,hr,?_⟩;intro own g w a m u hle hm hd hall hfr hrep;rw[ho]at hrep;simp only[Op.operands,KZ,Lx]at hrep;obtain⟨h1,h2⟩:=KG hrep
     obtain⟨j,z,hj,hs,hb,hz,hzs,hml,hzl,hmr⟩:=pq hT hte (by omega) n'.toNat
     have hn:(n'.toNat:Int)=n':=QeI (by omega)
     have hb6:(j.bytes:Int)*n'≤281474976710656:=by rw[hb,← hn,← QeL];omega
     have hm63:n'≤9223372036854775807:=by have h:=v3;simp only[maxLen]at h;omega
     have hrun:=run_make (P:=P) w t e j z (hT.und _ _ ht) hj hz k k' n n' v1 v2 hb6 hm63;rw[hs]at hrun;have hsz:=hT.ty e te tt hte Rz
     refine mc (rm:=[]) (cn:=(n'.toNat,n.toNat)) (arr:=(madeCells z.cells (n'.toNat*te.size)).toList) (t:=e) hm hd hall (hfr 0 (by simp)) (w1:=w) rfl rfl rfl rfl (Ku _) ?_ ?_ (v:=.slice (some ⟨w.heap.size,0,none⟩) n.toNat n'.toNat) ?_
     ·intro g' w' hi
      exact .c (.KP hi (by omega) v3)
     ·intro g' w' hle' hi hh
      refine .inr ⟨w.heap.size,n'.toNat,_,e,by simpa using hi,hh,by simp;omega,v3,by simp[madeCells,hsz],?_⟩
      have hz2:OJ te.zero (Jc F tt zz):=bK F hzz;intro k d x h3 h4
      have hlen:(cells F tt (List.replicate n.toNat zz)).length=n.toNat*Jf F tt:=by rw[aC,List.length_replicate]
      have hk:k<n.toNat*Jf F tt:=by rw[← hlen];exact(IS.1 h3).1
      have hlz:(Jc F tt zz).length=te.size:=by rw[aS,hsz]
      have e1:(cells F tt (List.replicate n.toNat zz))=(List.replicate n.toNat (Jc F tt zz)).flatten:=by simp[cells]
      rw[e1,cP _ (by rw[hlz];omega) n.toNat k (by rw[hlz,← hsz];exact hk),hlz]at h3
      have hk2:k<n'.toNat*te.zero.length:=by
       rw[hzl];rw[hsz]at hk
       have:n.toNat*te.size≤n'.toNat*te.size:=MW _ (by omega)
       omega
      have hk3:k % te.size<te.zero.length:=by rw[hzl];exact Nat.mod_lt _ (by omega)
      have e2:(List.replicate n'.toNat te.zero).flatten[k]? = some te.zero[k % te.size]:=by
       rw[cP te.zero (by omega) n'.toNat k hk2,hzl,IR hk3]
      exact(hmr _ _ k _ x e2 h4).Uh (hz2.2 (k % te.size) _ d (IR hk3) h3)
     ·simp only[execOp,ho,bG h1,bG h2,LC,hrun,LV,MI]
    ·exact ah
 ·exact ah
theorem Bw{t:TypeId}{x y:Operand}{n:Nat}(h:qd T t x y=some n):∃ti e k1 k2 b d q z,T t=some ti∧ti.desc = .slice e∧x = .const (.int k1 n)∧y = .const (.int k2 n)∧T e=some ⟨.slice d,1,b,[.nl],q,z⟩∧0<n∧n≤8∧b≤1000:=by
 unfold qd at h;split at h
 ·rename_i e _ _ _ _ _ n' m' ht hx hy;split at h
  ·rename_i d b q z he;split at h
   ·rename_i hc;obtain⟨rfl,h1,h2,h3⟩:=hc;cases h
    have lit:∀{x:Operand}{n:Nat},Xe x=some n→∃k,x = .const (.int k n):=by
     intro x n hx;unfold Xe at hx;split at hx
     ·cases hx;exact⟨_,rfl⟩
     ·cases hx
    obtain⟨k1,e1⟩:=lit hx;obtain⟨k2,e2⟩:=lit hy;exact⟨_,e,k1,k2,b,d,q,z,ht,rfl,e1,e2,he,h1,h2,h3⟩
   ·cases h
  ·cases h
 ·cases h
theorem A_(hT:Js P T){t:TypeId}{x y:Operand}(ho:o.op = .makeSlice t x y){n:Nat}(hn:qd T t x y=some n):Rule P o vals mm c K (Ct c K n):=by
 obtain⟨ti,e,k1,k2,b,d,q,zz,ht,hde,rfl,rfl,hte,n1,n2,n3⟩:=Bw hn;have hu:=hT.und _ _ ht;rw[hde]at hu;intro r hr;refine⟨_,hr,?_⟩;intro own g w a m u hle hm hd hall hfr hrep
 obtain⟨j,z,hj,hs,hb,hz,hzs,hml,hzl,hmr⟩:=pq hT hte (by simp) n
 have hs:j.size=1:=hs;have hb:j.bytes=b:=hb
 have hb6:(j.bytes:Int)*(n:Int)≤281474976710656:=by rw[hb,← QeL];have:b*n≤1000*8:=WQ n3 n2;omega
 have hrun:=run_make (P:=P) w t e j z hu hj hz k1 k2 n n (by omega) (Int.le_refl _) hb6 (by omega)
 rw[hs]at hrun;simp only[Un,Nat.mul_one]at hrun
 have hml':(madeCells z.cells n).toList.length=n:=by simp[madeCells]
 refine mc (rm:=[]) (cn:=(0,0)) (arr:=(madeCells z.cells n).toList) (t:=e) hm hd hall (hfr 0 (by simp)) (w1:=w) rfl rfl rfl rfl (Ku _) ?_ ?_ (v:=.slice (some ⟨w.heap.size,0,none⟩) n n) ?_
 ·intro g' w' hi
  exact .c (.OX hi (by simp only[maxLen];omega))
 ·intro g' w' hle' hi hh
  refine⟨w.heap.size,(0,0),_,e,hi,hh,by rw[hml'];simp,?_⟩
  intro k cc v h1 h2;rw[List.getElem?_replicate]at h1;split at h1
  ·rename_i hk;cases h1
   have e2:(List.replicate n ([.nl]:List (ND F))).flatten[k]? = some .nl:=by
    rw[cP _ (by simp) n k (by simpa using hk)]
    simp[Nat.mod_one]
   have:=hmr w' g'.IV k .nl v e2 (by simpa using h2)
   exact .im this
  ·cases h1
 ·simp only[execOp,ho,LC,Act.eval,hrun,LV,MI]
theorem qi(hT:Js P T){t:TypeId}{len:Nat}{parts:Array (Nat×Operand)}(ho:o.op = .buildSlice t len parts){el:TypeId}{i te:TI F}(ht:T t=some i)(hde:i.desc = .slice el)(hte:T el=some te)(hs0:¬ te.size=0)(hs1:¬ 1048576<len*te.size){cs:List (Ko F)}
  (hcs:lay (λi=>some (i*te.size,te.size)) ((List.replicate len te.zero).flatten.map .im) ((parts.toList.map (·.1)).zip vals)=some cs) (hrep:Kl P g w vals (o.op.operands.toList.map a.eval)) :
  ∃arr:List Value,arr.length=cs.length∧(∀(k:Nat)(c:Ko F)(x:Value),cs[k]? = some c→arr[k]? = some x→Jz g w c x)∧(execOp a.eval o).run P w = .ok (.value (.slice (some ⟨w.heap.size,0,none⟩) len len)) (w.alloc (.cells ⟨arr⟩ el)):=by
 rw[ho]at hrep
 have ai6:Kl P g w vals (parts.toList.map λp=>a.eval p.2):=by
  have:(Op.buildSlice t len parts).operands.toList.map a.eval=parts.toList.map λp=>a.eval p.2:=by simp[Op.operands,Function.comp_def]
  rwa [this]at hrep
 have h0:0<te.size:=by omega
 obtain⟨j,z,hj,hs,hb,hz,hzs,hml,hzl,hmr⟩:=pq hT hte h0 len;obtain⟨p1,p2⟩:=rV parts.toList vals ai6;obtain⟨arr,r1,r2,r3,r4⟩:=uD (P:=P) (g:=g) (w:=w) (λi=>some (i*te.size,te.size)) _ (parts.toList.map λ(i,x)=>(i,a.eval x)) _ cs (madeCells z.cells (len*te.size)).toList hcs p1 p2
  (by rw[hml,Ox]) (by intro k c x h1 h2;obtain⟨d,hd',rfl⟩:=fy h1;exact .im (hmr w g.IV k d x hd' h2))
 have hrun:(execOp a.eval o).run P w = .ok (.value (.slice (some ⟨w.heap.size,0,none⟩) len len)) (w.alloc (.cells ⟨arr⟩ el)):=by
  have hu:=hT.und _ _ ht;rw[hde]at hu;have hu:=run_underlying hu w;have hsz:=bw hT hte w
  have T9:Instr.fill (λi=>some (i*te.size,te.size)) (madeCells z.cells (len*te.size)) (parts.map λ(i,x)=>(i,a.eval x)).toList=some ⟨arr⟩:=by simpa using r1
  unfold madeCells at T9
  have hzv:(zeroValue el).run P w = .ok z w:=by simp[zeroValue,typeInfo,hj,hz]
  have hbig:¬ (16777216<len*te.size):=by omega
  by_cases hz0:len*te.size=0
  ·have hl0:len=0:=by
    rcases Nat.mul_eq_zero.1 hz0 with h | h
    ·exact h
    ·omega
   subst hl0
   have e0:∀z0:Array Value,(Array.range (0*te.size)).map (λx=>z0[x % z0.size]!) = #[]:=λz0=>by simp
   rw[e0]at T9;simp only[execOp,ho,Instr.buildSlice,LC,hu,LV,hsz]
   rw[if_neg (by simp),if_pos hz0]
   simp only[MI,LV,e0,T9,newRow,LC,run_newObj,World.alloc_eq]
  ·simp only[execOp,ho,Instr.buildSlice,LC,hu,LV,hsz]
   rw[if_neg (by simpa using hbig),if_neg hz0]
   simp only[LC,hzv,LV,MI,T9,newRow,run_newObj,World.alloc_eq]
 exact⟨arr,r2,r4,hrun⟩
theorem vd(hT:Js P T){t:TypeId}{len:Nat}{parts:Array (Nat×Operand)}(ho:o.op = .buildSlice t len parts):Rule P o vals mm c K (pD T vals mm c K t len (parts.toList.map (·.1))):=by
 unfold pD;split
 ·rename_i el sz bt zero _ _ ht;split
  ·exact ah
  ·rename_i te hte;split
   ·exact ah
   ·rename_i tt Rz;refine au (λ_=>ah) (λhsm=>?_);simp only[Pt,decide_eq_true_eq,not_or,MV,bne_iff_ne,ne_eq,Decidable.not_not]at hsm;obtain⟨⟨hs0,hs1⟩,hsz⟩:=hsm;split
    ·exact ah
    ·rename_i cs hcs;split
     ·exact ah
     ·rename_i ds fz hds;split
      ·exact ah
      ·rename_i l hl;refine au (λhc=>?_) (λ_=>ah);simp only[KQ,decide_eq_true_eq]at hc;obtain⟨hlen,_⟩:=hc;intro r hr;refine⟨_,hr,?_⟩;intro own g w a m u hle hm hd hall hfr hrep;have hf:NH mm fz:=NH.MB (kx hds);refine xS (res:={ val:=.c (.KP c),mw:=[(c,some (.row tt l))],nu:=1 }) hle hf ?_;have hm1:=freeze hm hle hf
       have h0:0<te.size:=by omega
       obtain⟨arr,r2,r4,hrun⟩:=qi hT ho ht rfl hte hs0 hs1 hcs hrep;obtain⟨q1,q2⟩:=lP hsz hl hlen;have hcell:=fb hm hle hds (mb g w fz) (λid hid b hb=>.inr ⟨id,hid,hb⟩) arr r4
       have hml':len≤maxLen:=by have:len≤len*te.size:=Nat.le_mul_of_pos_right _ h0;simp only[maxLen];omega
       refine mc (rm:=[]) (cn:=(len,len)) (arr:=arr) (t:=el) hm1 hd hall (hfr 0 (by simp)) (w1:=w) rfl rfl rfl rfl (Ku _) (λg' w' hi=>.c (.KP hi (Ku _) hml')) ?_ hrun
       intro g' w' hle' hi hh
       refine .inr ⟨w.heap.size,len,arr,el,by rw[q1];exact hi,hh,by omega,hml',?_,?_⟩
       ·rw[r2,← dR hds,hlen,hsz]
       ·intro k d x h1 h2;exact(sG q2 hcell k d x h1 h2).le hle'
 ·exact ah
def Ry(g:G):Option Nat→Option (Nat×Nat×Nat)
 | some id=>match g.ids id with
  | some (some (b,c,n,_))=>some (b,c,n)
  | _=>none
 | none=>none
theorem Hh{id b:Nat}{c:Nat×Nat}(h:Ry g (some id)=some (b,c)):g.blk id b:=by
 simp only[Ry]at h;split at h
 ·rename_i h1;cases h;exact G.Kn h1
 ·cases h
theorem EC(hm:Je own g w m){id:Nat}{t:Ty}{l:List (ET F t)}(h:m id=some (.row t l)):bD w g.IV t l (KR (Ry g (some id))):=by
 rcases hm.ok id _ h with⟨h1,h2⟩ | ⟨b,cap,cur,e,k1,k2,k3,k4,k5,k6⟩
 ·simp[Ry,h1,KR,bD,h2]
 ·have:Ry g (some id)=some (b,cap,l.length):=by simp[Ry,k1]
  rw[this];exact⟨rfl,k3,k4,cur,e,k2,k5,k6⟩
theorem Fv(hm:Je own g w m){id:Nat}{t:Ty}{l:List (ET F t)}(h:m id=some (.row t l)){v:Value}(hv:Jz (F:=F) g w (.KP id) v):Lf (KR (Ry g (some id))) v:=by
 rcases a_ hv with⟨hi,p,rfl⟩ | ⟨b,c,n,hi,h1,h2,rfl⟩
 ·simp[Ry,hi,KR,Lf]
 ·obtain⟨rfl,_,_⟩:=bU hm h hi;simp[Ry,hi,KR,Lf]
theorem tW:∀{cs:List (Ko F)} {ds:List (ND F)} {os:List (Option Nat)},jP mm cs=some (ds,os)→ds.length=cs.length∧os.length=cs.length∧∀(k:Nat)(c:Ko F)(d:ND F)(o:Option Nat),cs[k]? = some c→ds[k]? = some d→os[k]? = some o→
  (∃id t l,c = .KP id∧mm id=some (.row t l)∧d = .sl t l∧o=some id)∨(c = .im .nl∧d = .nl∧o=none)∨(c = .im d∧d.flat=true∧o=none)
 | [],ds,os,h=>by
  simp only[jP,KV,Prod.mk.injEq]at h;obtain⟨rfl,rfl⟩:=h
  exact⟨rfl,rfl,λk c d o h=>by simp at h⟩
 | c::r,ds,os,h=>by
  have next:∀{d':ND F}{o':Option Nat}{ds':List (ND F)} {os':List (Option Nat)},jP mm r=some (ds',os')→
    ((∃id t l,c = .KP id∧mm id=some (.row t l)∧d' = .sl t l∧o'=some id)∨(c = .im .nl∧d' = .nl∧o'=none)∨(c = .im d'∧d'.flat=true∧o'=none))→
    (d'::ds').length=(c::r).length∧(o'::os').length=(c::r).length∧∀(k:Nat)(c0:Ko F)(d:ND F)(o:Option Nat),(c::r)[k]? = some c0→(d'::ds')[k]? = some d→(o'::os')[k]? = some o→
     (∃id t l,c0 = .KP id∧mm id=some (.row t l)∧d = .sl t l∧o=some id)∨(c0 = .im .nl∧d = .nl∧o=none)∨(c0 = .im d∧d.flat=true∧o=none):=by
   intro d' o' ds' os' h1 h2;obtain⟨k1,k2,k3⟩:=tW h1
   refine⟨by simp[k1],by simp[k2],?_⟩
   intro k c0 d o q1 q2 q3
   cases k with
   | zero=>simp only[M4,KV]at q1 q2 q3;subst q1 q2 q3;exact h2
   | succ k=>exact k3 k c0 d o (by simpa using q1) (by simpa using q2) (by simpa using q3)
  unfold jP at h;split at h
  ·rename_i heq;cases heq
  ·rename_i id r' heq;cases heq;split at h
   ·rename_i t l hrow;split at h
    ·rename_i ds' os' hr;cases h;exact next hr (.inl ⟨id,t,l,rfl,hrow,rfl,rfl⟩)
    ·cases h
   ·cases h
  ·rename_i r' heq;cases heq;split at h
   ·rename_i ds' os' hr;cases h;exact next hr (.inr (.inl ⟨rfl,rfl,rfl⟩))
   ·cases h
  ·rename_i d r' hnn heq;cases heq;split at h
   ·rename_i hf;split at h
    ·rename_i ds' os' hr;cases h;exact next hr (.inr (.inr ⟨rfl,hf,rfl⟩))
    ·cases h
   ·cases h
  ·cases h
theorem qR{x:Nat}:∀{l:List (Option Nat)},x∈Kh l↔some x∈l
 | []=>by simp[Kh]
 | none::l=>by simp[Kh,qR (l:=l)]
 | some y::l=>by simp[Kh,qR (l:=l)]
theorem rL(hm:Je own g w m):∀{os:List (Option Nat)},cD (Kh os)=true→(∀id,some id∈os→∃B,m id=some B∧B.owned=true)→(Km (os.map (Ry g))).Nodup∧∀b∈Km (os.map (Ry g)),∃id,some id∈os∧g.blk id b
 | [],_,_=>⟨Zt,λb hb=>by simp[Km]at hb⟩
 | none::os,hn,ho=>by
  obtain⟨h1,h2⟩:=rL hm (os:=os) (by simpa[Kh]using hn) (λid hid=>ho id (by simp[hid]))
  refine⟨by simpa[Ry,Km]using h1,λb hb=>?_⟩
  obtain⟨id,q1,q2⟩:=h2 b (by simpa[Ry,Km]using hb)
  exact⟨id,by simp[q1],q2⟩
 | some id::os,hn,ho=>by
  simp only[Kh,cD,KQ,Rj]at hn
  obtain⟨h1,h2⟩:=rL hm (os:=os) hn.2 (λid hid=>ho id (by simp[hid]))
  simp only[KZ]
  cases hp:Ry g (some id)with
  | none=>
   refine⟨by simpa[Km]using h1,λb hb=>?_⟩
   obtain⟨id,q1,q2⟩:=h2 b (by simpa[Km]using hb)
   exact⟨id,by simp[q1],q2⟩
  | some q=>
   obtain⟨b0,c0⟩:=q;have hb0:=Hh hp;refine⟨?_,?_⟩
   ·simp only[Km,Pv];refine⟨λhb=>?_,h1⟩;obtain⟨id',q1,q2⟩:=h2 b0 hb
    obtain⟨B,r1,r2⟩:=ho id (by simp)
    obtain⟨B',r3,r4⟩:=ho id' (by simp[q1])
    have:=hm.Ou id id' B B' b0 r1 r3 r2 r4 hb0 q2;subst this;have:=aK.2 (qR.2 q1);rw[this]at hn;cases hn.1
   ·intro b hb;simp only[Km,Li]at hb;rcases hb with rfl | hb
    ·exact⟨id,by simp,hb0⟩
    ·obtain⟨id,q1,q2⟩:=h2 b hb
     exact⟨id,by simp[q1],q2⟩
theorem HB{t:Ty}{c:ND F}{x:ET F t}(h:Ru F t c=some x):enc1 F t x≠.nl:=by
 unfold Ru at h
 split at h<;>first | (intro e;cases e;done) | cases h
theorem Ad:∀{ts:List Ty}{cs:List (ND F)} {a:Jk F ts},OT F ts cs=some a→∀d∈LJ F ts a,d≠.nl
 | [],cs,a,h,d,hd=>by simp[LJ]at hd
 | t::r,cs,a,h,d,hd=>by
  cases cs with
  | nil=>simp[OT]at h
  | cons c cs=>
   simp only[OT]at h;split at h
   ·cases h
   ·rename_i x hx;split at h
    ·cases h
    ·rename_i y hy;cases h;rcases Li.1 hd with rfl | hd
     ·exact HB hx
     ·exact Ad hy d hd
theorem pG{t:Ty}{cs:List (ND F)}{x:ET F t}(h:Mg F t cs=some x):∀d∈Jc F t x,d≠.nl:=by
 unfold Mg at h;split at h
 ·split at h
  ·cases h
  ·rename_i a ha;cases h;simp only[Jc,F.um];exact Ad ha
 all_goals first | (intro d hd;simp only[Jc,IU]at hd;subst hd;intro e;cases e;done) | cases h
theorem C9{IV:Nat→Prop}{d d':ND F}{x:Value}(hf:d.flat=true)(hl:Rl d d')(h:Jm w IV d x):LB w IV d' x none:=by
 cases hl with
 | refl=>
  cases d with
  | sl t' l'=>cases hf
  | _=>exact⟨rfl,hf,h⟩
 | nl t'=>cases hf
theorem xo{tt:Ty}{sz:Nat}:∀{n:Nat}{ds:List (ND F)} {l:List (ET F tt)},iZ tt sz n ds=some l→∀d∈cells F tt l,d≠.nl
 | 0,ds,l,h,d,hd=>by simp only[iZ,KV]at h;subst h;simp[cells]at hd
 | n+1,ds,l,h,d,hd=>by
  simp only[iZ]at h;split at h
  ·cases h
  ·rename_i x hx;split at h
   ·cases h
   ·rename_i r hr;cases h;simp only[cells,KZ,U2,Mi]at hd;rcases hd with hd | hd
    ·exact pG hx d hd
    ·exact xo hr d hd
theorem uj(hT:Js P T){t:TypeId}{len:Nat}{parts:Array (Nat×Operand)}(ho:o.op = .buildSlice t len parts):Rule P o vals mm c K (oJ T vals mm c K t len (parts.toList.map (·.1))):=by
 unfold oJ;split
 ·rename_i el sz bt zero _ _ ht;split
  ·exact ah
  ·rename_i te hte;split
   ·exact ah
   ·rename_i tt Rz;refine au (λ_=>ah) (λhsm=>?_);simp only[Pt,decide_eq_true_eq,not_or,MV,bne_iff_ne,ne_eq,Decidable.not_not]at hsm;obtain⟨⟨hs0,hs1⟩,hsz⟩:=hsm;split
    ·exact ah
    ·rename_i cs hcs;split
     ·exact ah
     ·rename_i ds os hds;split
      ·exact ah
      ·rename_i l hl;refine au (λhc=>?_) (λ_=>ah);simp only[KQ,decide_eq_true_eq]at hc;obtain⟨hlen,hnd⟩:=hc;intro r hr;refine⟨_,hr,?_⟩;intro own g w a m u hle hm hd hall hfr hrep
       have h0:0<te.size:=by omega
       obtain⟨arr,r2,r4,hrun⟩:=qi hT ho ht rfl hte hs0 hs1 hcs hrep;obtain⟨q1,q2⟩:=lP hsz hl hlen
       have hml':len≤maxLen:=by have:len≤len*te.size:=Nat.le_mul_of_pos_right _ h0;simp only[maxLen];omega
       obtain⟨n1,n2,n3⟩:=tW hds
       have hrows:∀id,some id∈os→∃t l,m id=some (.row t l):=by
        intro id hid;obtain⟨k,hk⟩:=RD hid;have hlt:=(IS.1 hk).1
        rcases n3 k _ _ _ (IR (by omega)) (IR (by omega)) hk with⟨id',t',l',_,e2,_,e4⟩ | ⟨_,_,e⟩ | ⟨_,_,e⟩
        ·cases e4;exact⟨t',l',hle _ _ e2⟩
        ·cases e
        ·cases e
       have Ti:∀id,some id∈os→∃B,m id=some B∧B.owned=true:=λid hid=>by obtain⟨t',l',h⟩:=hrows id hid;exact⟨_,h,rfl⟩
       obtain⟨d1,d2⟩:=rL hm hnd Ti;have hold:∀b,b<w.heap.size→(w.alloc (.cells ⟨arr⟩ el)).heap[b]? = w.heap[b]?:=λb hb=>heap_alloc_old w _ b hb
       have hlow:∀b∈Km (os.map (Ry g)),b<w.heap.size:=by intro b hb;obtain⟨id,e1,e2⟩:=d2 b hb;obtain⟨B,e3,e4⟩:=Ti id e1;exact(hm.ok id B e3).place hm.IV (Jw.MQ e4) e2
       have hR:Je own (g.name c (some (w.heap.size,len,len,os.map (Ry g)))) (w.alloc (.cells ⟨arr⟩ el)) (Kc m ((Kh os).map (λr=>(r,none))++[(c,some (.KM tt l))]))∧Stp m g w (g.name c (some (w.heap.size,len,len,os.map (Ry g)))) (w.alloc (.cells ⟨arr⟩ el)):=by
        refine fT (rm:=Kh os) hm (hd c (hfr 0 (by simp))) ?_ rfl rfl rfl (Ku _) (by rw[World.size_alloc];omega) (λb hb _=>hold b hb) ?_
        ·intro b0 c0 e b hb;cases e;rcases Li.1 hb with rfl | hb
         ·exact .inl ⟨Ku _,by rw[World.size_alloc];omega,hall _ (Ku _)⟩
         ·obtain⟨id,e1,e2⟩:=d2 b hb;obtain⟨B,e3,e4⟩:=Ti id e1;exact .inr ⟨id,qR.2 e1,B,e3,e4,e2⟩
        ·intro g' hle' hi'
         have hcl:(cells F tt l).length=len*te.size:=by rw[aC,q1,hsz]
         refine⟨_,hi',q1.symm,by rw[q1];exact Ku _,hml',?_,?_,arr,el,heap_alloc_new w _,?_,?_⟩
         ·rw[Ox,n2,← n1,hlen,hcl]
         ·refine Pv.2 ⟨λhb=>?_,d1⟩;have:=hlow _ hb;omega
         ·rw[r2,← n1,hlen,hsz]
         ·intro k d x pl p1 p2 p3
          have hk:k<cs.length:=by rw[← r2];exact(IS.1 p2).1
          rw[MN,RF]at p3;obtain⟨o',ho',rfl⟩:=p3
          have hdk:ds[k]? = some ds[k]:=IR (by omega)
          have hl1:Rl ds[k] d:=q2.2 k _ d hdk p1;have hrep:=r4 k _ x (IR hk) p2;refine LB.Ml (w:=w) (IV:=g.IV) hle'.IV hle'.heap ?_ ?_
          ·intro b c1 e
           exact hold b (hlow b (eX (k:=k) (c:=c1) (by rw[MN,ho'];exact congrArg some e)))
          ·rcases n3 k _ _ _ (IR hk) hdk ho' with⟨id,t',l',e1,e2,e3,rfl⟩ | ⟨e1,e2,rfl⟩ | ⟨e1,e2,rfl⟩
           ·rw[e3]at hl1;cases hl1;rw[e1]at hrep;exact⟨EC hm (hle _ _ e2),Fv hm (hle _ _ e2) hrep⟩
           ·rw[e2]at hl1;rw[e1]at hrep;generalize hdd:d=d0 at hl1 ⊢
            cases hl1 with
            | refl=>exact absurd (hdd.symm▸rfl:d = .nl) (xo hl d (Rk p1))
            | nl t'=>obtain⟨p,rfl⟩:=mg (P:=P) (.c hrep);exact⟨rfl,p,rfl⟩
           ·rw[e1]at hrep;have hrep:=bX hrep;exact C9 e2 hl1 hrep
       obtain⟨k1,k2⟩:=hR;intro next Q hn;unfold Oper.wp;rw[hrun];refine hn _ _ _ (.c (.KP (n:=(len,os.map (Ry g))) (a9 _ _ _) (Ku _) hml')) k1 k2 ?_;intro x hu hx;have hx:x<c∨c+1≤x:=hx
       have:x≠c:=by omega
       rw[bE _ _ _ this];exact hd x hu
 ·exact ah
end
set_option linter.unusedVariables false
set_option linter.unusedSimpArgs false
section
variable{F:Fam}{P:Program}{T:TypeId→Option (TI F)}{o:Oper}{vals:List (Dat F)}{mm:Nat→Option (Jw F)}{c:Nat}{R:Type}{K:Oq F→Option R}{own:Ow}{g g':G}{w w':World}{m m':Nat→Option (Jw F)}{u:Nat→Bool}{a:Act}
theorem zt{α : Type}{sz:Nat}:∀{es:List (List α)} (_:∀e∈es,e.length=sz) {i:Nat} {cs ds:List α} (_:es[i]? = some cs) (_:ds.length=cs.length),
  (es.set i ds).flatten=es.flatten.take (i*sz)++ds++es.flatten.drop (i*sz+sz)
 | [],_,i,_,_,h,_=>by simp at h
 | x::es,hsz,0,cs,ds,h,hl=>by
  simp only[M4,KV]at h;subst h
  have hx:x.length=sz:=hsz x (by simp)
  have h2:(x++es.flatten).drop sz=es.flatten:=by rw[← hx,List.drop_left]
  simp[h2]
 | x::es,hsz,i+1,cs,ds,h,hl=>by
  simp only[WW]at h
  have hx:x.length=sz:=hsz x (by simp)
  have ih:=zt (es:=es) (λe he=>hsz e (by simp[he])) h hl
  have e1:(i+1)*sz=x.length+i*sz:=by rw[Rh,hx];omega
  simp only[List.set_cons_succ,U2,ih]
  rw[e1,show x.length+i*sz+sz=x.length+(i*sz+sz)by omega,List.take_length_add_append,List.drop_length_add_append]
  simp only[MF]
theorem rr{t:Ty}{l:List (ET F t)}{i:Nat}{x y:ET F t}(h:l[i]? = some x):cells F t (l.set i y)=(cells F t l).take (i*Jf F t)++Jc F t y++(cells F t l).drop (i*Jf F t+Jf F t):=by
 unfold cells;rw[List.map_set]
 refine zt oN (cs:=Jc F t x) (by rw[MN,h];rfl) (by rw[aS,aS])
theorem qG{IV:Nat→Prop}{cs ds:List (ND F)}{cur vs:List Value}{q:Nat}(hq:q+ds.length≤cs.length)(hc:cs.length≤cur.length)
  (hr:∀(k:Nat)(d:ND F)(x:Value),cs[k]? = some d→cur[k]? = some x→Jm w IV d x) (hl:vs.length=ds.length)
  (hv:∀(k:Nat)(d:ND F)(x:Value),ds[k]? = some d→vs[k]? = some x→Jm w IV d x) :
  ∀(k:Nat)(d:ND F)(x:Value),(cs.take q++ds++cs.drop (q+ds.length))[k]? = some d→(cur.take q++vs++cur.drop (q+vs.length))[k]? = some x→Jm w IV d x:=by
 intro k d x h1 h2
 have e1:(cs.take q).length=q:=by simp;omega
 have e2:(cur.take q).length=q:=by simp;omega
 rw[MF]at h1 h2;by_cases hk:k<q
 ·rw[Mv (by omega),MO,if_pos hk]at h1
  rw[Mv (by omega),MO,if_pos hk]at h2
  exact hr k d x h1 h2
 ·rw[Nc (by omega),e1]at h1
  rw[Nc (by omega),e2]at h2
  by_cases hk2:k - q<ds.length
  ·rw[Mv hk2]at h1
   rw[Mv (by omega)]at h2
   exact hv _ d x h1 h2
  ·rw[Nc (by omega),Ov]at h1
   rw[Nc (by omega),Ov]at h2
   rw[hl]at h2;exact hr _ d x h1 h2
theorem mF{t:Ty}{l:List (ET F t)}{i k:Nat}{x y:ET F t}{d:ND F}(h:l[i]? = some x)(hk:(cells F t (l.set i y))[k]? = some d) :
  (∃j,k=i*Jf F t+j∧(Jc F t y)[j]? = some d)∨((k<i*Jf F t∨i*Jf F t+Jf F t≤k)∧(cells F t l)[k]? = some d):=by
 have hi:i<l.length:=(IS.1 h).1;have hcl:(cells F t l).length=l.length*Jf F t:=aC
 have hbig:i*Jf F t+Jf F t≤(cells F t l).length:=by rw[hcl];have:(i+1)*Jf F t≤l.length*Jf F t:=MW _ hi;rw[Rh]at this;omega
 have e1:((cells F t l).take (i*Jf F t)).length=i*Jf F t:=by rw[Ld];omega
 rw[rr h,MF]at hk;by_cases h1:k<i*Jf F t
 ·rw[Mv (by omega),MO,if_pos h1]at hk
  exact .inr ⟨.inl h1,hk⟩
 ·rw[Nc (by omega),e1]at hk
  by_cases h2:k - i*Jf F t<Jf F t
  ·rw[Mv (by rw[aS];exact h2)]at hk
   exact .inl ⟨k - i*Jf F t,by omega,hk⟩
  ·rw[Nc (by rw[aS];omega),aS,Ov]at hk
   refine .inr ⟨.inr (by omega),?_⟩
   rw[← hk]
   congr 1
   omega
theorem wc{b:Nat}:∀{ns:NS},(Km ns).Nodup→∀{k k':Nat}{c c':Nat×Nat},ns[k]? = some (some (b,c))→ns[k']? = some (some (b,c'))→k=k'
 | [],_,k,k',c,c',h,_=>by simp at h
 | none::ns,hn,k,k',c,c',h,h'=>by
  cases k with
  | zero=>simp at h
  | succ k=>
   cases k' with
   | zero=>simp at h'
   | succ k'=>exact congrArg (· + 1) (wc (ns:=ns) hn (k:=k) (k':=k') (c:=c) (c':=c') (by simpa using h) (by simpa using h'))
 | some (b0,c0)::ns,hn,k,k',c,c',h,h'=>by
  simp only[Km,Pv]at hn
  cases k with
  | zero=>
   cases k' with
   | zero=>rfl
   | succ k'=>
    simp only[M4,KV,Prod.mk.injEq]at h
    exact absurd (eX (ns:=ns) (by simpa using h')) (h.1▸hn.1)
  | succ k=>
   cases k' with
   | zero=>
    simp only[M4,KV,Prod.mk.injEq]at h'
    exact absurd (eX (ns:=ns) (by simpa using h)) (h'.1▸hn.1)
   | succ k'=>exact congrArg (· + 1) (wc (ns:=ns) hn.2 (k:=k) (k':=k') (c:=c) (c':=c') (by simpa using h) (by simpa using h'))
theorem ut{IV:Nat→Prop}{d d':ND F}{x:Value}{pl:Option (Nat×Nat×Nat)}(hl:Rl d d')(h:LB w IV d x pl):d'=d:=by
 cases hl with
 | refl=>rfl
 | nl t=>exact absurd h.2.1 (by simp[NP.flat])
theorem BB{IV:Nat→Prop}{t':Ty}{l:List (ET F t')}{i off:Nat}{el nw:ET F t'}{ds:List (ND F)}{cur vs:List Value}(hel:l[i]? = some el)(h3:off+ds.length≤Jf F t')(hnw:Mg F t' ((Jc F t' el).take off++ds++(Jc F t' el).drop (off+ds.length))=some nw)
  (hcur:(cells F t' l).length≤cur.length) (k6:∀(k:Nat)(d:ND F)(x:Value),(cells F t' l)[k]? = some d→cur[k]? = some x→Jm w IV d x) (hl:vs.length=ds.length)
  (hv:∀(k:Nat)(d:ND F)(x:Value),ds[k]? = some d→vs[k]? = some x→Jm w IV d x) :
  ∀(k:Nat)(d:ND F)(x:Value),(cells F t' (l.set i nw))[k]? = some d→(cur.take (i*Jf F t'+off)++vs++cur.drop (i*Jf F t'+off+ds.length))[k]? = some x→Jm w IV d x:=by
 intro k d x p q;have hile:i<l.length:=(IS.1 hel).1;have hcl:(cells F t' l).length=l.length*Jf F t':=aC
 have hbig:i*Jf F t'+Jf F t'≤(cells F t' l).length:=by rw[hcl];have:(i+1)*Jf F t'≤l.length*Jf F t':=MW _ hile;rw[Rh]at this;omega
 rw[rr hel]at p;have hels:(Jc F t' el).length=Jf F t':=aS F t' el
 have hov:=qG (w:=w) (IV:=IV) (cs:=cells F t' l) (ds:=ds) (cur:=cur) (vs:=vs) (q:=i*Jf F t'+off) (by omega) hcur k6 hl hv
 rw[hl]at hov;have O7:=bK F hnw
 have hin:(cells F t' l).take (i*Jf F t')++(Jc F t' el).take off=(cells F t' l).take (i*Jf F t'+off):=by
  rw[List.take_add]
  congr 1
  apply Zw;intro j;rw[MO,MO];split
  ·rw[Ov]
   have hj:j<(Jc F t' el).length:=by omega
   rw[IR hj,aQ hel (IR hj)]
  ·rfl
 have hout:(Jc F t' el).drop (off+ds.length)++(cells F t' l).drop (i*Jf F t'+Jf F t')=(cells F t' l).drop (i*Jf F t'+off+ds.length):=by
  apply Zw;intro j;rw[Ov];by_cases hj:off+ds.length+j<Jf F t'
  ·rw[Mv (by rw[Na,hels];omega),Ov]
   have hj2:off+ds.length+j<(Jc F t' el).length:=by omega
   rw[IR hj2];have:=aQ hel (IR hj2);rw[← this]
   congr 1
   omega
  ·rw[Nc (by rw[Na,hels];omega),Ov,Na,hels]
   congr 1
   omega
 have V6:OJ ((cells F t' l).take (i*Jf F t'+off)++ds++(cells F t' l).drop (i*Jf F t'+off+ds.length)) ((cells F t' l).take (i*Jf F t')++Jc F t' nw++(cells F t' l).drop (i*Jf F t'+Jf F t')):=by
  rw[← hin,← hout]
  have hrefl:∀l:List (ND F),OJ l l:=λl=>⟨rfl,λk c d h1 h2=>by rw[h1]at h2;cases h2;exact .refl _⟩
  have:=jV (jV (hrefl ((cells F t' l).take (i*Jf F t'))) O7) (hrefl ((cells F t' l).drop (i*Jf F t'+Jf F t')));simpa[MF]using this
 exact sG V6 hov k d x p q
theorem rQ:∀{cs:List (Ko F)} {ds:List (ND F)} {ids:List Nat},bM mm cs=some (ds,ids)→cs.all Ko.Nu=true
 | [],ds,ids,_=>rfl
 | y::cs,ds,ids,h=>by
  obtain⟨d,i',ds',j,q1,q2,_,_⟩:=je h;simp only[Tt,KQ];refine⟨?_,rQ q2⟩
  cases y<;>first | rfl | simp[NT]at q1
theorem BS(hT:Js P T){t:TypeId}{x y:Operand}(ho:o.op = .store t x y):Rule P o vals mm c K (yy T vals mm K t):=by
 unfold yy;split
 ·exact ah
 ·rename_i ti hti
  have key:∀{w:World}{a:Act}{b q:Nat}{cur:List Value} {e:TypeId} {vs:List Value},a.eval x = .pointer (some ⟨b,q,none⟩)→w.heap[b]? = some (.cells ⟨cur⟩ e (0,0))→(a.eval y).cells.toList=vs→vs.length=ti.size→
    (∀v∈vs,v.oneCell'=true)→q+vs.length≤cur.length→(execOp a.eval o).run P w = .ok .skip (w.setRow b ⟨cur.take q++vs++cur.drop (q+vs.length)⟩):=by
   intro w a b q cur e vs e1 hb e2 hl h1 hle;have hsz:=bw hT hti w
   have hs:=run_storeCells_at (P:=P) b q e vs 0 ⟨cur⟩ w hb (by simpa using hle) h1
   simp only[RS]at hs
   have hsize:(a.eval y).cells.size=ti.size:=by rw[← SF,e2,hl]
   simp only[execOp,ho,e1,Instr.storeAt,Instr.sureAddr,LC,MI,LV,storeVar,hsz,hsize,ne_eq,not_true_eq_false,if_false,e2,hs]
  split
  ·rename_i id off v;split
   ·rename_i cs Mw;dsimp only;refine au (λhc=>?_) (λ_=>ah);simp only[KQ,decide_eq_true_eq,MV]at hc;obtain⟨⟨⟨h1,h2⟩,h3⟩,h4⟩:=hc;have h3:=PX h3;intro r hr;refine⟨_,hr,?_⟩;intro own g w a m u hle hm hd hall hfr hrep;rw[ho]at hrep;simp only[Op.operands,KZ,Lx]at hrep;obtain⟨hx,hy⟩:=KG hrep;obtain⟨b,cn,hi,e1⟩:=bo hx;obtain⟨b',RN,arr,tt,k1,k2,k3,k4⟩:=hm.ok id _ (hle _ _ Mw);rw[k1]at hi;cases hi;obtain⟨r1,r2,r3⟩:=g9 hy h2 h4
    have hrun:=key (vs:=(a.eval y).cells.toList) e1 k2 rfl (by rw[r1,h1]) r3 (by rw[r1,k3];exact h3)
    have hseg:=AI (off:=off) k3 k4 r1 r2;rw[r1]at hseg hrun
    obtain⟨w1,w2⟩:=sD (B':=.box (cs.take off++v.cells++cs.drop (off+v.cells.length))) (arr:=arr.take off++(a.eval y).cells.toList++arr.drop (off+v.cells.length)) hm (hle _ _ Mw) rfl k1 k2 (by intro hh hle';exact⟨b,RN,_,tt,k1,hh,hseg.1,λk c x p q=>(hseg.2 k c x p q).le hle'⟩)
    intro next Q hn;unfold Oper.wp;rw[hrun];exact hn undef _ g (.c .any) w1 w2 (λid hu _=>hd id hu)
   ·exact ah
  ·rename_i id sz i off v;split
   ·rename_i t' l ds fz hrow hds;refine au (λhc=>?_) (λ_=>ah);simp only[KQ,decide_eq_true_eq,beq_iff_eq,MV,Rj]at hc;obtain⟨⟨⟨⟨⟨h1,h2⟩,h3⟩,h4⟩,h5⟩,_⟩:=hc;have h3:=PX h3;subst h2;refine aD λel hel=>?_;dsimp only;split
    ·rename_i nw hnw;intro r hr;refine⟨_,hr,?_⟩;intro own g w a m u hle hm hd hall hfr hrep;have hf:NH mm fz:=NH.MB (kx hds);refine xS (res:={ val:=.c .any,mw:=[(id,some (.row t' (l.set i nw)))] }) hle hf ?_;have hm1:=freeze hm hle hf;rw[ho]at hrep;simp only[Op.operands,KZ,Lx]at hrep;obtain⟨hx,hy⟩:=KG hrep;have hlen:v.cells.length=ds.length:=(dR hds).symm
     have hna:v.cells.all Ko.Nu=true:=by
      rw[N9];intro x hx'
      have gen:∀{cs:List (Ko F)} {ds:List (ND F)} {ids:List Nat},bM mm cs=some (ds,ids)→x∈cs→x.Nu=true:=by
       intro cs
       induction cs with
       | nil=>intro ds ids _ h;simp at h
       | cons y cs ih=>
        intro ds ids h hmem;obtain⟨d,i',ds',j,q1,q2,_,_⟩:=je h;rcases Li.1 hmem with rfl | hmem
        ·cases x<;>first | rfl | simp[NT]at q1
        ·exact ih q2 hmem
      exact gen hds hx'
     obtain⟨b,cn,hi,e1⟩:=eo hx
     have ai4:Kc m (SK mm fz) id=some (.row t' l):=by
      rw[fV,if_neg (by intro hid;rw[aK.2 hid]at h5;cases h5)]
      exact hle _ _ hrow
     rcases hm.ok id _ (hle _ _ hrow)with⟨k1,k2⟩ | ⟨b',cap,cur,e,k1,k2,k3,k4,k5,k6⟩
     ·rw[k1]at hi;cases hi
     ·rw[k1]at hi;cases hi
      obtain⟨r1,r2,r3⟩:=g9 hy hna (by omega)
      have hile:i<l.length:=(IS.1 hel).1;have hcl:(cells F t' l).length=l.length*Jf F t':=aC
      have hbig:i*Jf F t'+Jf F t'≤(cells F t' l).length:=by rw[hcl];have:(i+1)*Jf F t'≤l.length*Jf F t':=MW _ hile;rw[Rh]at this;omega
      have hcur:(cells F t' l).length≤cur.length:=by rw[hcl,k5];exact MW _ k3
      have hrun:=key (vs:=(a.eval y).cells.toList) e1 k2 rfl (by rw[r1,hlen,h1]) r3 (by rw[r1,hlen];omega)
      rw[r1,hlen]at hrun
      obtain⟨w1,w2⟩:=sD (g:=g.Nj fz) (B':=.row t' (l.set i nw)) (arr:=cur.take (i*Jf F t'+off)++(a.eval y).cells.toList++cur.drop (i*Jf F t'+off+ds.length)) hm1 ai4 rfl k1 k2 (by
       intro hh hle'
       refine .inr ⟨b,cap,_,e,by rw[RB];exact k1,hh,by simpa using k3,k4,?_,?_⟩
       ·simp only[IT,Ld,Na,r1,hlen];omega
       ·intro k d x p q;refine Jm.le hle' ?_;rw[rr hel]at p;have hels:(Jc F t' el).length=Jf F t':=aS F t' el;have hle2:=mb g w fz
        have hov:=qG (w:=w) (IV:=(g.Nj fz).IV) (cs:=cells F t' l) (ds:=ds) (cur:=cur) (vs:=(a.eval y).cells.toList) (q:=i*Jf F t'+off) (by omega) hcur (λk d x p q=>(k6 k d x p q).le hle2) (by rw[r1,hlen])
         (fb hm hle hds hle2 (λid hid b hb=>.inr ⟨id,hid,hb⟩) _ r2)
        rw[r1,hlen]at hov;have O7:=bK F hnw
        have hin:(cells F t' l).take (i*Jf F t')++(Jc F t' el).take off=(cells F t' l).take (i*Jf F t'+off):=by
         rw[List.take_add]
         congr 1
         apply Zw;intro j;rw[MO,MO];split
         ·rw[Ov]
          have hj:j<(Jc F t' el).length:=by omega
          rw[IR hj,aQ hel (IR hj)]
         ·rfl
        have hout:(Jc F t' el).drop (off+ds.length)++(cells F t' l).drop (i*Jf F t'+Jf F t')=(cells F t' l).drop (i*Jf F t'+off+ds.length):=by
         apply Zw;intro j;rw[Ov];by_cases hj:off+ds.length+j<Jf F t'
         ·rw[Mv (by rw[Na,hels];omega),Ov]
          have hj2:off+ds.length+j<(Jc F t' el).length:=by omega
          rw[IR hj2];have:=aQ hel (IR hj2);rw[← this]
          congr 1
          omega
         ·rw[Nc (by rw[Na,hels];omega),Ov,Na,hels]
          congr 1
          omega
        have V6:OJ ((cells F t' l).take (i*Jf F t'+off)++ds++(cells F t' l).drop (i*Jf F t'+off+ds.length)) ((cells F t' l).take (i*Jf F t')++Jc F t' nw++(cells F t' l).drop (i*Jf F t'+Jf F t')):=by
         rw[← hin,← hout]
         have hrefl:∀l:List (ND F),OJ l l:=λl=>⟨rfl,λk c d h1 h2=>by rw[h1]at h2;cases h2;exact .refl _⟩
         have:=jV (jV (hrefl ((cells F t' l).take (i*Jf F t'))) O7) (hrefl ((cells F t' l).drop (i*Jf F t'+Jf F t')));simpa[MF]using this
        exact sG V6 hov k d x p q)
      intro next Q hn;unfold Oper.wp;rw[hrun];exact hn undef _ (g.Nj fz) (.c .any) w1 w2 (λid hu _=>hd id hu)
    ·exact ah
   ·exact ah
  ·rename_i id sz i off sz' j off' v;split
   ·rename_i t' l ds fz hrow hds;refine au (λhc=>?_) (λ_=>ah);simp only[KQ,decide_eq_true_eq,beq_iff_eq,MV,QeG]at hc;obtain⟨⟨⟨h1,rfl⟩,h4⟩,rfl⟩:=hc;refine aD λel hel=>?_;split
    ·rename_i t2 l2 hd;refine au (λhc=>?_) (λ_=>ah);simp only[KQ,beq_iff_eq]at hc;obtain⟨rfl,h3⟩:=hc;have h3:=PX h3;refine aD λel2 aci=>?_;split
     ·rename_i z hz;split
      ·rename_i nw hnw;intro r hr;refine⟨_,hr,?_⟩;intro own g w a m u hle hm hd' hall hfr hrep;rw[ho]at hrep;simp only[Op.operands,KZ,Lx]at hrep;obtain⟨hx,hy⟩:=KG hrep;have hlen:v.cells.length=ds.length:=(dR hds).symm;obtain⟨b,c',nn,b',c2,hid,hk,e1⟩:=Ab hx;obtain⟨pl,k1,k2⟩:=hm.ok id _ (hle _ _ hrow);rw[hid]at k1;cases k1;obtain⟨t2',l2',hd2,hO⟩:=M8.sub k2 hk;have hc0:=aQ hel hd;rw[hc0]at hd2;cases hd2;obtain⟨q0,q2,q3,cur,e,q4,q5,q6⟩:=hO;have hb':b'∈Km nn.2:=eX hk;have hblk:g.blk id b':=⟨b,(c',nn),hid,Pw _ hb'⟩
       obtain⟨r1,r2,r3⟩:=g9 hy (rQ hds) (by omega)
       have hjle:j<l2.length:=(IS.1 aci).1;have hcl:(cells F t2 l2).length=l2.length*Jf F t2:=aC
       have hbig:j*Jf F t2+Jf F t2≤(cells F t2 l2).length:=by rw[hcl];have:(j+1)*Jf F t2≤l2.length*Jf F t2:=MW _ hjle;rw[Rh]at this;omega
       have hcur:(cells F t2 l2).length≤cur.length:=by rw[hcl,q5];exact MW _ q2
       have hrun:=key (vs:=(a.eval y).cells.toList) e1 q4 rfl (by rw[r1,hlen,h1]) r3 (by rw[r1,hlen];omega)
       rw[r1,hlen]at hrun
       have hv:=fb hm hle hds (Le.refl g w) (by simp) _ r2
       have hnew:=BB (w:=w) (IV:=g.IV) (vs:=(a.eval y).cells.toList) aci h3 hz hcur q6 (by rw[r1,hlen]) hv
       obtain⟨s1,s2,s3,s4,s5,aoH,e0,s6,s7,s8⟩:=k2;have s5':=Pv.1 s5;have hbne:b≠b':=λe=>s5'.1 (e▸hb')
       obtain⟨w1,w2⟩:=xC (B':=.KM t' (l.set i nw)) (arr:=cur.take (j*Jf F t2+off')++(a.eval y).cells.toList++cur.drop (j*Jf F t2+off'+ds.length)) hm (hle _ _ hrow) rfl hblk q4 (by
        intro hh hle';have hsame:∀b2,b2≠b'→(w.setRow b' ⟨cur.take (j*Jf F t2+off')++(a.eval y).cells.toList++cur.drop (j*Jf F t2+off'+ds.length)⟩).heap[b2]? = w.heap[b2]?:=λb2 h=>setRow_other w b' b2 _ h
        refine⟨_,hid,by rw[s1,RB],by simpa using s2,s3,by rw[s4,aC,aC,RB],s5,aoH,e0,by rw[hsame b hbne];exact s6,s7,?_⟩
        intro k d x pl p1 p2 p3;have hkn:k<nn.2.length:=(IS.1 p3).1;have hold:∀{d0:ND F},(cells F t' l)[k]? = some d0→LB w g.IV d0 x pl:=λh0=>s8 k _ x pl h0 p2 p3
        have keep:∀{d0:ND F},k≠i*Jf F t'+off→LB w g.IV d0 x pl→LB (w.setRow b' ⟨cur.take (j*Jf F t2+off')++(a.eval y).cells.toList++cur.drop (j*Jf F t2+off'+ds.length)⟩) g.IV d0 x pl:=by intro d0 hne h;refine h.Ml (λ_ h=>h) hle'.heap ?_;rintro b2 c3 rfl;refine hsame b2 ?_;rintro rfl;exact hne (wc s5'.2 p3 hk)
        rcases mF hel p1 with⟨jj,rfl,hjj⟩ | ⟨hout,hcell⟩
        ·have hlt:jj<Jf F t':=by rw[← aS F t' nw];exact(IS.1 hjj).1
         have hj0:jj<(Jc F t' el).length:=by rw[aS];exact hlt
         have O7:=(bK F hnw).2 jj _ d (IR (by simpa using hj0)) hjj
         by_cases hjo:jj=off
         ·subst hjo;rw[QdU]at O7;cases O7;rw[hk]at p3;cases p3;have h9:=(hold hc0).2
          refine⟨⟨?_,by simpa using q2,q3,_,e,hh,?_,?_⟩,h9⟩
          ·simpa using q0
          ·simp only[IT,Ld,Na,r1,hlen];omega
          ·intro k d x p q;exact(hnew k d x p q).le hle'
         ·rw[QdN (λe=>hjo e.symm)]at O7;have h9:=hold (aQ hel (IR hj0));rw[ut O7 h9]
          exact keep (by omega) h9
        ·refine keep ?_ (hold hcell)
         have:off<Jf F t':=by rw[← aS F t' el];exact(IS.1 hd).1
         omega)
       intro next Q hn;unfold Oper.wp;rw[hrun];exact hn undef _ g (.c .any) w1 w2 (λid hu _=>hd' id hu)
      ·exact ah
     ·exact ah
    ·exact ah
   ·exact ah
  ·exact ah
def Sv(g:G)(w:World)(t:Ty)(v:Value)(ys:List (ET F t)):Prop:=
 ∃(q:Option Addr)(cap:Nat)(news:List Value),v = .slice q ys.length cap∧news.length=ys.length*Jf F t∧(q=none→ys = []∧cap=0)∧(∀b,q=some b→∀(j:Nat)(x:Value),news[j]? = some x→w.cell? (b.add j)=some x)∧
  ∀(k:Nat)(d:ND F)(x:Value),(cells F t ys)[k]? = some d→news[k]? = some x→Jm w g.IV d x
theorem we{b q n:Nat}{ds:List (ND F)}(hl:ds.length=n)(h:∀k d,ds[k]? = some d→∃x,w.cell? ⟨b,q+k,none⟩=some x∧Jm w g.IV d x) :
  ∃news:List Value,news.length=n∧(∀(j:Nat)(x:Value),news[j]? = some x→w.cell? ((⟨b,q,none⟩:Addr).add j)=some x)∧∀(k:Nat)(d:ND F)(x:Value),ds[k]? = some d→news[k]? = some x→Jm w g.IV d x:=by
 refine⟨(List.range n).map λk=>(w.cell? ⟨b,q+k,none⟩).getD undef,by simp,?_,?_⟩
 ·intro j x hx
  have hj:j<n:=by have:=(IS.1 hx).1;simpa using this
  rw[MN,QeV hj]at hx;simp only[SN,KV]at hx
  obtain⟨y,hy,_⟩:=h j _ (IR (by omega))
  rw[hy]at hx;rw[Addr.add_lit,hy];simpa using hx
 ·intro k d x h1 h2
  have hk:k<n:=by have:=(IS.1 h1).1;omega
  rw[MN,QeV hk]at h2;simp only[SN,KV]at h2;obtain⟨y,hy,hr⟩:=h k d h1;rw[hy]at h2;simp only[SQ]at h2;rw[← h2];exact hr
theorem sA{t:Ty}(p:Option Addr):Sv (F:=F) g w t (.slice p 0 0) []:=⟨p,0,[],rfl,by simp,λ_=>⟨rfl,rfl⟩,λ_ _ _ _ h=>by simp at h,λ_ _ _ h=>by simp[cells]at h⟩
theorem rE{t:Ty}{l:List (ET F t)}{v:Value}(h:Jm w g.IV (.sl t l) v):Sv g w t v l:=by
 rcases sk h with⟨rfl,p,rfl⟩ | ⟨b,q,cap,fn,hb,hcap,hmx,rfl,hc,hr⟩
 ·exact sA p
 ·obtain⟨news,n1,n2,n3⟩:=we (g:=g) (w:=w) (b:=b) (q:=q) (ds:=cells F t l) aC (λk d hk=>⟨fn k,hc k d hk,hr k d hk⟩)
  exact⟨_,cap,news,rfl,n1,(λh=>by cases h),(λb' hb'=>by cases hb';exact n2),n3⟩
theorem uT(hm:Je own g w m)(hle:M6 mm m){tt:Ty}{d:Dat F}{v:Value}{ys:List (ET F tt)}(h:rt mm tt d=some ys)(hr:Jr P g w d v):Sv g w tt v ys:=by
 unfold rt at h;split at h
 ·cases h;obtain⟨p,rfl⟩:=mg hr
  exact sA p
 ·split at h
  ·rename_i hk;subst hk;cases h;exact rE (sm hr)
  ·cases h
 ·rename_i id;split at h
  ·rename_i t' l hrow;split at h
   ·rename_i hk;subst hk;cases h;rcases a_ (aV hr)with⟨hi,p,rfl⟩ | ⟨b,cap,n,hi,h1,h2,rfl⟩
    ·rcases hm.ok id _ (hle _ _ hrow)with⟨_,rfl⟩ | ⟨_,_,_,_,k1,_⟩
     ·exact sA p
     ·rw[hi]at k1;cases k1
    ·obtain⟨rfl,h4,h7⟩:=bU hm (hle _ _ hrow) hi
     obtain⟨news,n1,n2,n3⟩:=we (g:=g) (w:=w) (b:=b) (q:=0) (ds:=cells F t' l) aC (λk d hk=>by rw[LY];exact h7 k d hk)
     exact⟨_,cap,news,rfl,n1,(λh=>by cases h),(λb' hb'=>by cases hb';exact n2),n3⟩
   ·cases h
  ·rename_i t' l hrow;split at h
   ·rename_i hk;subst hk;cases h;exact rE (pu hm (hle _ _ hrow) (aV hr))
   ·cases h
  ·cases h
 ·rename_i id sz off n;split at h
  ·rename_i t' l hrow;split at h
   ·rename_i hk;subst hk;split at h
    ·rename_i hsz;cases h;subst hsz;rcases kX (aV hr)with⟨hi,rfl,rfl,p,rfl⟩ | ⟨b,cap,len,q,hi,h1,h2,h3,h4,rfl⟩
     ·have:Fx.sub l 0 0 = []:=by simp[Fx.sub]
      rw[this];exact sA p
     ·obtain⟨rfl,h5,h7⟩:=bU hm (hle _ _ hrow) hi
      have hlen:(Fx.sub l off n).length=n:=by simp only[Fx.sub,Ld,Na];omega
      obtain⟨news,n1,n2,n3⟩:=we (g:=g) (w:=w) (b:=b) (q:=q) (ds:=cells F t' (Fx.sub l off n)) aC (λk d hk=>by
       rcases h3 with⟨h3,_⟩ | h3
       ·have h0:n=0:=by omega
        subst h0;simp[Fx.sub,cells]at hk
       ·subst h3;exact h7 _ _ (gD hk))
      exact⟨_,_,news,by rw[hlen],n1,(λh=>by cases h),(λb' hb'=>by cases hb';exact n2),n3⟩
    ·cases h
   ·cases h
  ·rename_i t' l hrow;split at h
   ·rename_i hk;subst hk;split at h
    ·rename_i hsz;cases h;exact rE (xP hm (hle _ _ hrow) hsz (aV hr))
    ·cases h
   ·cases h
  ·cases h
 ·cases h
end
set_option linter.unusedVariables false
set_option linter.unusedSimpArgs false
section
variable{F:Fam}{P:Program}{T:TypeId→Option (TI F)}{o:Oper}{vals:List (Dat F)}{mm:Nat→Option (Jw F)}{c:Nat}{R:Type}{K:Oq F→Option R}{own:Ow}{g g':G}{w w':World}{m m':Nat→Option (Jw F)}{u:Nat→Bool}{a:Act}
theorem nL{α : Type}{b:Nat}{l m r:List α}(h:app b l m=some r):r=l++m∧r.length≤maxLen∧r.length*b≤140737488355328:=by
 unfold app at h;split at h
 ·rename_i hc;cases h;exact⟨rfl,hc.1,hc.2⟩
 ·cases h
theorem gS(t ty e:TypeId)(i:TypeInfo)(ht:P.underlying t=some (.slice e))(hi:P.info? e=some i)(base:Option Addr)(n c:Nat)(hn:n≤c)(q:Option Addr)(c':Nat) :
  (Builtin.append_ #[t,t] ty #[.slice base n c,.slice q 0 c']).run P w = .ok (.slice base n c) w:=by
 cases base<;>cases q<;>simp[Builtin.append_,run_underlying ht,sizeOf,typeInfo,hi,Builtin.lenOf,hn,Builtin.firstCells,storeCells,loadCells,loadCellsFrom]
theorem oh(t ty e e':TypeId)(i:TypeInfo)(ht:P.underlying t=some (.slice e))(hi:P.info? e=some i)
  (b sLen sCap:Nat) (cur:Array Value) (hg:w.heap[b]? = some (.cells cur e' (0,0)))
  (p:Addr) (m c:Nat) (news:List Value) (hl:news.length=m*i.size) (hnews:∀j u,news[j]? = some u→w.cell? (p.add j)=some u) (h1:∀u∈news,u.oneCell'=true)
  (hroom:sLen+m≤sCap) (hfit:sLen*i.size+news.length≤cur.size) :
  (Builtin.append_ #[t,t] ty #[.slice (some ⟨b,0,none⟩) sLen sCap,.slice (some p) m c]).run P w =
   .ok (.slice (some ⟨b,0,none⟩) (sLen+m) sCap) (w.setRow b (cur.toList.take (sLen*i.size)++news++cur.toList.drop (sLen*i.size+news.length)).toArray):=by
 have hf:=run_firstCells_some (P:=P) w i.size m p m c news hl hnews
 have hst:=run_storeCells_at P b (sLen*i.size) e' news 0 cur w hg (by simpa using hfit) h1
 simp only[RS]at hst;simp[Builtin.append_,run_underlying ht,sizeOf,typeInfo,hi,Builtin.lenOf,hroom,hf,Addr.add_lit,hst]
theorem oV{IV:Nat→Prop}{xs ys:List (ND F)}{cur news rest:List Value}(hc:xs.length≤cur.length)(hx:∀(k:Nat)(d:ND F)(x:Value),xs[k]? = some d→cur[k]? = some x→Jm w IV d x)
  (hn:news.length=ys.length) (hy:∀(k:Nat)(d:ND F)(x:Value),ys[k]? = some d→news[k]? = some x→Jm w IV d x) :
  ∀(k:Nat)(d:ND F)(x:Value),(xs++ys)[k]? = some d→(cur.take xs.length++news++rest)[k]? = some x→Jm w IV d x:=by
 intro k d x h1 h2
 have e:(cur.take xs.length).length=xs.length:=by rw[Ld];omega
 rw[MF]at h2;by_cases hk:k<xs.length
 ·rw[Mv hk]at h1
  rw[Mv (by omega),MO,if_pos hk]at h2
  exact hx k d x h1 h2
 ·rw[Nc (by omega)]at h1
  have hk2:k - xs.length<ys.length:=(IS.1 h1).1
  rw[Nc (by omega),e,Mv (by omega)]at h2
  exact hy _ d x h1 h2
theorem dl{t:Ty}{l r:List (ET F t)}:cells F t (l++r)=cells F t l++cells F t r:=by simp[cells]
theorem tP(hT:Js P T)(hm:Je own g w m)(hd:∀id,u id=false→g.ids id=none)(hall:∀b,w.heap.size≤b→own.o b)(hfr:u c=false)
  {t e:TypeId} {i te:TI F} (ht:T t=some i) (hde:i.desc = .slice e) (hte:T e=some te) (hz0:0<te.size) {tt:Ty} (hsz:Jf F tt=te.size) {x y:Operand}
  (ho:o.op = .call { callee:=.builtin .append,args:=#[x,y],argTypes:=#[t,t] }) {l0 ys r:List (ET F tt)} (hr:app te.bytes l0 ys=some r) (hsrc:Sv g w tt (a.eval y) ys) {rm:List Nat}
  (hdst:(∃p,a.eval x = .slice p 0 0∧l0 = [])∨∃r0 b cap cur e',rm = [r0]∧a.eval x = .slice (some ⟨b,0,none⟩) l0.length cap∧m r0=some (.row tt l0)∧g.ids r0=some (some (b,cap,l0.length,[]))∧w.heap[b]? = some (.cells ⟨cur⟩ e' (0,0))∧l0.length≤cap∧cap≤maxLen∧cur.length=cap*Jf F tt∧
   ∀(k:Nat)(d:ND F)(x:Value),(cells F tt l0)[k]? = some d→cur[k]? = some x→Jm w g.IV d x) :
  M0 P own m u g w o a c { val:=.c (.KP c),mw:=rm.map (λr=>(r,none))++[(c,some (.row tt r))],nu:=1 }:=by
 have hu:=hT.und _ _ ht;rw[hde]at hu;obtain⟨j,hj,hs,hb,z,hz,hzs,hzl,WI⟩:=hT.info e te hte
 have MP:∀{v:Value}{w':World},(Builtin.append_ #[t,t] o.type #[a.eval x,a.eval y]).run P w = .ok v w'→(execOp a.eval o).run P w = .ok (.value v) w':=by intro v w' hr;simp only[execOp,ho,resolve,invoke,builtin,LC,MI,LV,QeF,KZ,Lx,hr]
 obtain⟨rfl,v3,v4⟩:=nL hr;have OQ:g.ids c=none:=hd c hfr;have hlen:(l0++ys).length=l0.length+ys.length:=IT;obtain⟨q,cap',news,hyv,n1,n0,n2,n3⟩:=hsrc;rw[hsz]at n1
 have hcl0:(cells F tt l0).length=l0.length*te.size:=by rw[aC,hsz]
 have aco:(cells F tt ys).length=ys.length*te.size:=by rw[aC,hsz]
 have fin:∀{v:Value}{w':World}{pl:Pl},(execOp a.eval o).run P w = .ok (.value v) w'→Je own (g.name c pl) w' (Kc m (rm.map (λr=>(r,none))++[(c,some (.row tt (l0++ys)))]))→
   Stp m g w (g.name c pl) w'→Jz (F:=F) (g.name c pl) w' (.KP c) v→M0 P own m u g w o a c { val:=.c (.KP c),mw:=rm.map (λr=>(r,none))++[(c,some (.row tt (l0++ys)))],nu:=1 }:=by
  intro v w' pl hr k1 k2 k3;intro next Q hn;unfold Oper.wp;rw[hr];refine hn v w' (g.name c pl) (.c k3) k1 k2 ?_;intro id hu' hx';have hx':id<c∨c+1≤id:=hx'
  have:id≠c:=by omega
  rw[bE _ _ _ this];exact hd id hu'
 have ajE:∀p,l0++ys = []→(execOp a.eval o).run P w = .ok (.value (.slice p 0 0)) w→M0 P own m u g w o a c { val:=.c (.KP c),mw:=rm.map (λr=>(r,none))++[(c,some (.row tt (l0++ys)))],nu:=1 }:=by
  intro p h0 hr;obtain⟨k1,k2⟩:=EM (rm:=rm) (id:=c) (t:=tt) hm OQ
  exact fin hr (by rw[h0];exact k1) k2 (.ML p (a9 _ _ _))
 have asNew:∀(cap:Nat)(arr:List Value),(l0++ys).length≤cap→cap≤maxLen→arr.length=cap*te.size→(∀(k:Nat)(d:ND F)(x:Value),(cells F tt (l0++ys))[k]? = some d→arr[k]? = some x→Jm w g.IV d x)→
   (execOp a.eval o).run P w = .ok (.value (.slice (some ⟨w.heap.size,0,none⟩) (l0++ys).length cap)) (w.drew.alloc (.cells ⟨arr⟩ e))→M0 P own m u g w o a c { val:=.c (.KP c),mw:=rm.map (λr=>(r,none))++[(c,some (.row tt (l0++ys)))],nu:=1 }:=by
  intro cap arr h1 h2 h3 h4 hr
  obtain⟨k1,k2⟩:=made (rm:=rm) (id:=c) (cn:=(cap,(l0++ys).length)) (arr:=arr) (t:=e) (B:=.row tt (l0++ys)) hm OQ (hall _ (Ku _)) (w1:=w.drew) rfl rfl rfl rfl (WL _) (by
   intro g' w' hle hi hh
   refine .inr ⟨w.heap.size,cap,arr,e,hi,hh,h1,h2,by rw[h3,hsz],?_⟩
   intro k d x p q;exact(h4 k d x p q).le hle)
  exact fin hr k1 k2 (.KP (a9 _ _ _) h1 h2)
 have hzc:∀k,(Builtin.zeroCells z.cells k).toList.length=k*te.size:=λk=>by rw[SF,size_zeroCells,hzs]
 have Zg:∀old,(l0++ys).length≤grownCap w (l0++ys).length old e∧grownCap w (l0++ys).length old e≤maxLen:=λold=>⟨grownCap_ge w _ _ _,grownCap_le_maxLen w _ _ _ v3⟩
 have h63:((l0++ys).length:Int)≤9223372036854775807:=by have h:=v3;simp only[maxLen]at h;omega
 rcases hdst with⟨p,hxv,rfl⟩ | ⟨r0,b,cap,cur,e',rfl,hxv,hB0,hi,hbk,hle,hmx,hcl,hcr⟩
 ·simp only[OY]at *;by_cases h0:ys = []
  ·subst h0
   exact ajE p rfl (MP (by rw[hxv,hyv];exact gS t o.type e j hu hj p 0 0 (Ku _) q cap'))
  ·have hpos:0<ys.length:=QeW.2 h0
   cases q with
   | none=>exact absurd (n0 rfl).1 h0
   | some b'=>
    have n2':=n2 b' rfl
    have grown:∀{v:Value}{w':World},(Builtin.append_ #[t,t] o.type #[a.eval x,a.eval y]).run P w = .ok v w'→v = .slice (some ⟨w.heap.size,0,none⟩) ys.length (grownCap w ys.length 0 e)→
      w'=w.drew.alloc (.cells (⟨news++(Builtin.zeroCells z.cells (grownCap w ys.length 0 e - ys.length)).toList⟩:Array Value) e)→M0 P own m u g w o a c { val:=.c (.KP c),mw:=rm.map (λr=>(r,none))++[(c,some (.row tt ys))],nu:=1 }:=by
     intro v w' hr hv hw;subst hv hw;obtain⟨g1,g2⟩:=Zg 0;refine asNew (grownCap w ys.length 0 e) (news++(Builtin.zeroCells z.cells (grownCap w ys.length 0 e - ys.length)).toList) g1 g2 ?_ ?_ (MP hr)
     ·rw[IT,n1,hzc,← OI]
      congr 1
      omega
     ·intro k d x p q;have hk:k<(cells F tt ys).length:=(IS.1 p).1
      rw[Mv (by omega)]at q
      exact n3 k d x p q
    cases p with
    | none=>
     have hr:=run_append_nil (P:=P) w t o.type e j z hu hj hz b' ys.length cap' news (by rw[n1,hs]) n2' hpos h63 (by rw[hb];omega)
     refine grown (by rw[hxv,hyv];exact hr) rfl ?_
     congr 2
     apply Array.ext';simp
    | some b0=>
     have hr:=run_append_grow (P:=P) w t o.type e j z hu hj hz b0 0 0 [] (by simp) (by simp) b' ys.length cap' news (by rw[n1,hs]) n2' (by omega) (by simpa using h63)
      (growslice_fits (by omega) (by rw[hb,LY];exact v4))
     simp only[LY]at hr
     refine grown (by rw[hxv,hyv];exact hr) rfl ?_
     congr 2
     apply Array.ext';simp
 ·rw[hsz]at hcl
  have htake:cur.take (cells F tt l0).length=cur.take (l0.length*te.size):=by rw[hcl0]
  have Y6:(cells F tt l0).length≤cur.length:=by rw[hcl0,hcl];exact MW _ hle
  by_cases h0:ys = []
  ·subst h0;simp only[XC]at *
   have hr:=MP (by rw[hxv,hyv];exact gS t o.type e j hu hj (some ⟨b,0,none⟩) l0.length cap hle q cap')
   obtain⟨k1,k2⟩:=moved (rm:=r0) (id:=c) (RN:=(cap,l0.length)) (w':=w) (B:=.row tt l0) hm OQ hB0 rfl hi rfl rfl rfl (Ku _) rfl (λ_ _=>rfl) (by
    intro g' hle' hi'
    refine .inr ⟨b,cap,cur,e',hi',hbk,hle,hmx,by rw[hcl,hsz],?_⟩
    intro k d x p q;exact(hcr k d x p q).le hle')
   exact fin hr k1 k2 (.KP (a9 _ _ _) hle hmx)
  ·have hpos:0<ys.length:=QeW.2 h0
   cases q with
   | none=>exact absurd (n0 rfl).1 h0
   | some b'=>
    have n2':=n2 b' rfl;by_cases hroom:l0.length+ys.length≤cap
    ·have hfit:l0.length*j.size+news.length≤(⟨cur⟩:Array Value).size:=by
      rw[hs,n1,← OI];show _≤cur.length;rw[hcl];exact MW _ hroom
     have h1:∀u∈news,u.oneCell'=true:=by
      intro x hx;obtain⟨k,hk⟩:=RD hx
      have hlt:k<(cells F tt ys).length:=by have:=(IS.1 hk).1;omega
      exact(n3 k _ x (IR hlt) hk).oneCell
     have hr:=oh (P:=P) (w:=w) t o.type e e' j hu hj b l0.length cap ⟨cur⟩ hbk b' ys.length cap' news (by rw[n1,hs]) n2' h1 hroom hfit
     rw[hs]at hr
     have hr':=MP (by rw[hxv,hyv];exact hr)
     obtain⟨k1,k2⟩:=moved (rm:=r0) (id:=c) (RN:=(cap,(l0++ys).length)) (w':=w.setRow b (cur.take (l0.length*te.size)++news++cur.drop (l0.length*te.size+news.length)).toArray) (B:=.row tt (l0++ys)) hm OQ hB0 rfl hi rfl rfl rfl (Ku _) (by simp) (λb'' hne=>setRow_other w b b'' _ hne) (by
      intro g' hle' hi'
      refine .inr ⟨b,cap,cur.take (l0.length*te.size)++news++cur.drop (l0.length*te.size+news.length),e',hi',setRow_heap w b _ _ e' _ hbk,by omega,hmx,?_,?_⟩
      ·simp only[IT,Ld,Na,n1];rw[hs,n1,← OI]at hfit;have ajd:(l0.length+ys.length)*te.size≤cur.length:=hfit;rw[OI]at ajd;rw[hsz,← hcl];omega
      ·intro k d x p q;rw[dl]at p;rw[← htake]at q
       exact(oV Y6 hcr (by rw[n1,aco]) n3 k d x p q).le hle')
     rw[← hlen]at hr'
     exact fin hr' k1 k2 (.KP (a9 _ _ _) (by omega) hmx)
    ·have holds:∀(k:Nat)(v:Value),(cur.take (l0.length*te.size))[k]? = some v→w.cell? ((⟨b,0,none⟩:Addr).add k)=some v:=by
      intro k v hk;rw[MO]at hk;split at hk
      ·rw[Addr.add_lit,LY];simp only[World.cell?,hbk];simpa using hk
      ·cases hk
     have hlo:(cur.take (l0.length*te.size)).length=l0.length*j.size:=by rw[Ld,hs];omega
     have hr:=run_append_grow (P:=P) w t o.type e j z hu hj hz ⟨b,0,none⟩ l0.length cap (cur.take (l0.length*te.size)) hlo holds b' ys.length cap' news (by rw[n1,hs]) n2' (by omega) (by rw[← hlen];exact h63)
      (growslice_fits (by omega) (by rw[hb,← hlen];exact v4))
     rw[← hlen]at hr;obtain⟨g1,g2⟩:=Zg cap
     have harr:((cur.take (l0.length*te.size)).toArray++news.toArray++Builtin.zeroCells z.cells (grownCap w (l0++ys).length cap e - (l0++ys).length)) =
       (⟨cur.take (l0.length*te.size)++news++(Builtin.zeroCells z.cells (grownCap w (l0++ys).length cap e - (l0++ys).length)).toList⟩:Array Value):=by
      apply Array.ext';simp
     rw[harr]at hr
     refine asNew (grownCap w (l0++ys).length cap e) (cur.take (l0.length*te.size)++news++(Builtin.zeroCells z.cells (grownCap w (l0++ys).length cap e - (l0++ys).length)).toList) g1 g2 ?_ ?_ (MP (by rw[hxv,hyv];exact hr))
     ·rw[IT,IT,hlo,n1,hzc,hs,← OI,← hlen,← OI]
      congr 1
      omega
     ·intro k d x p q;rw[dl]at p;rw[← htake]at q
      exact oV Y6 hcr (by rw[n1,aco]) n3 k d x p q
theorem Bm(hT:Js P T){t e:TypeId}{i te:TI F}(ht:T t=some i)(hde:i.desc = .slice e)(hte:T e=some te)(hz0:0<te.size){x y:Value}{ty:TypeId}{n k:Nat}{cur news:List Value}
  (hx:((∃p,x = .slice p 0 0)∧n=0∧cur = [])∨∃b e' cap,x = .slice (some ⟨b,0,none⟩) n cap∧w.heap[b]? = some (.cells ⟨cur⟩ e' (0,0))∧n≤cap∧cap≤maxLen∧cur.length=cap*te.size)
  (hy:((∃p cap,y = .slice p 0 cap)∧k=0∧news = [])∨∃b' cap',y = .slice (some b') k cap'∧0<k∧news.length=k*te.size∧(∀(j:Nat)(u:Value),news[j]? = some u→w.cell? (b'.add j)=some u)∧∀u∈news,u.oneCell'=true)
  (hlen:n+k≤maxLen) (hby:(n+k)*te.bytes≤140737488355328) :
  ∃v w',(Builtin.append_ #[t,t] ty #[x,y]).run P w = .ok v w'∧w'.os=w.os∧w'.tape=w.tape∧w'.output=w.output∧w.drawn≤w'.drawn∧
   ((n+k=0∧(∃p,v = .slice p 0 0)∧(∃p,x = .slice p 0 0)∧w'=w)∨
    (∃b e' cap arr,x = .slice (some ⟨b,0,none⟩) n cap∧v = .slice (some ⟨b,0,none⟩) (n+k) cap∧w'.heap[b]? = some (.cells ⟨arr⟩ e' (0,0))∧(∀b2,b2≠b→w'.heap[b2]? = w.heap[b2]?)∧w'.heap.size=w.heap.size∧n+k≤cap∧cap≤maxLen∧arr.length=cap*te.size∧
     arr.take ((n+k)*te.size)=cur.take (n*te.size)++news∧(k=0→w'=w))∨
    (∃e' cap arr,v = .slice (some ⟨w.heap.size,0,none⟩) (n+k) cap∧w'.heap[w.heap.size]? = some (.cells ⟨arr⟩ e' (0,0))∧(∀b2,b2<w.heap.size→w'.heap[b2]? = w.heap[b2]?)∧w'.heap.size=w.heap.size+1∧n+k≤cap∧cap≤maxLen∧arr.length=cap*te.size∧
     arr.take ((n+k)*te.size)=cur.take (n*te.size)++news)):=by
 have hu:=hT.und _ _ ht;rw[hde]at hu;obtain⟨j,hj,hs,hb,z,hz,hzs,hzl,WI⟩:=hT.info e te hte
 have hzc:∀k,(Builtin.zeroCells z.cells k).toList.length=k*te.size:=λk=>by rw[SF,size_zeroCells,hzs]
 have h63:((n+k:Nat):Int)≤9223372036854775807:=by have h:=hlen;simp only[maxLen]at h;omega
 have asNew:∀{v:Value}{cap:Nat}{arr:List Value},(Builtin.append_ #[t,t] ty #[x,y]).run P w = .ok v (w.drew.alloc (.cells ⟨arr⟩ e))→v = .slice (some ⟨w.heap.size,0,none⟩) (n+k) cap→n+k≤cap→cap≤maxLen→arr.length=cap*te.size→arr.take ((n+k)*te.size)=cur.take (n*te.size)++news→
   ∃v w',(Builtin.append_ #[t,t] ty #[x,y]).run P w = .ok v w'∧w'.os=w.os∧w'.tape=w.tape∧w'.output=w.output∧w.drawn≤w'.drawn∧
   ((n+k=0∧(∃p,v = .slice p 0 0)∧(∃p,x = .slice p 0 0)∧w'=w)∨
    (∃b e' cap arr,x = .slice (some ⟨b,0,none⟩) n cap∧v = .slice (some ⟨b,0,none⟩) (n+k) cap∧w'.heap[b]? = some (.cells ⟨arr⟩ e' (0,0))∧(∀b2,b2≠b→w'.heap[b2]? = w.heap[b2]?)∧w'.heap.size=w.heap.size∧n+k≤cap∧cap≤maxLen∧arr.length=cap*te.size∧
     arr.take ((n+k)*te.size)=cur.take (n*te.size)++news∧(k=0→w'=w))∨
    (∃e' cap arr,v = .slice (some ⟨w.heap.size,0,none⟩) (n+k) cap∧w'.heap[w.heap.size]? = some (.cells ⟨arr⟩ e' (0,0))∧(∀b2,b2<w.heap.size→w'.heap[b2]? = w.heap[b2]?)∧w'.heap.size=w.heap.size+1∧n+k≤cap∧cap≤maxLen∧arr.length=cap*te.size∧
     arr.take ((n+k)*te.size)=cur.take (n*te.size)++news)):=by
  intro v cap arr h0 h1 h2 h3 h4 h5;refine⟨v,_,h0,rfl,rfl,rfl,WL _,.inr (.inr ⟨e,cap,arr,h1,?_,?_,?_,h2,h3,h4,h5⟩)⟩
  ·exact heap_alloc_new w.drew (.cells ⟨arr⟩ e)
  ·intro b2 hb2;exact heap_alloc_old w.drew (.cells ⟨arr⟩ e) b2 hb2
  ·rw[World.size_alloc];rfl
 rcases hy with⟨⟨q,cap',rfl⟩,rfl,rfl⟩ | ⟨b',cap',rfl,hpos,n1,n2,h1⟩
 ·rcases hx with⟨⟨p,rfl⟩,rfl,rfl⟩ | ⟨b,e',cap,rfl,hbk,hle,hmx,hcl⟩
  ·exact⟨_,w,gS t ty e j hu hj p 0 0 (Ku _) q cap',rfl,rfl,rfl,Ku _,.inl ⟨rfl,⟨p,rfl⟩,⟨p,rfl⟩,rfl⟩⟩
  ·refine⟨_,w,gS t ty e j hu hj (some ⟨b,0,none⟩) n cap hle q cap',rfl,rfl,rfl,Ku _,.inr (.inl ⟨b,e',cap,cur,rfl,rfl,hbk,λ_ _=>rfl,rfl,hle,hmx,hcl,by simp,λ_=>rfl⟩)⟩
 ·rcases hx with⟨⟨p,rfl⟩,rfl,rfl⟩ | ⟨b,e',cap,rfl,hbk,hle,hmx,hcl⟩
  ·simp only[LY,Nat.zero_mul,List.take_zero,OY]at *;have g1:=grownCap_ge w k 0 e;have g2:=grownCap_le_maxLen w k 0 e hlen
   have hA:(news++(Builtin.zeroCells z.cells (grownCap w k 0 e - k)).toList).length=grownCap w k 0 e*te.size:=by
    rw[IT,n1,hzc,← OI]
    congr 1
    omega
   have hB:(news++(Builtin.zeroCells z.cells (grownCap w k 0 e - k)).toList).take (k*te.size)=news:=by rw[← n1,List.take_left'];rfl
   cases p with
   | none=>
    have hr:=run_append_nil (P:=P) w t ty e j z hu hj hz b' k cap' news (by rw[n1,hs]) n2 hpos h63 (by rw[hb];omega)
    have harr:(news.toArray++Builtin.zeroCells z.cells (grownCap w k 0 e - k))=(⟨news++(Builtin.zeroCells z.cells (grownCap w k 0 e - k)).toList⟩:Array Value):=by apply Array.ext';simp
    rw[harr]at hr;exact asNew hr rfl g1 g2 hA hB
   | some b0=>
    have hr:=run_append_grow (P:=P) w t ty e j z hu hj hz b0 0 0 [] (by simp) (by simp) b' k cap' news (by rw[n1,hs]) n2 (by omega) (by simpa using h63)
     (growslice_fits (by omega) (by rw[hb,LY];exact hby))
    simp only[LY]at hr
    have harr:(([]:List Value).toArray++news.toArray++Builtin.zeroCells z.cells (grownCap w k 0 e - k))=(⟨news++(Builtin.zeroCells z.cells (grownCap w k 0 e - k)).toList⟩:Array Value):=by apply Array.ext';simp
    rw[harr]at hr;exact asNew hr rfl g1 g2 hA hB
  ·have hlo:(cur.take (n*te.size)).length=n*te.size:=by
    rw[Ld,hcl];exact Nat.min_eq_left (MW _ hle)
   by_cases hroom:n+k≤cap
   ·have hfit:n*j.size+news.length≤(⟨cur⟩:Array Value).size:=by
     rw[hs,n1,← OI];show _≤cur.length;rw[hcl];exact MW _ hroom
    have hr:=oh (P:=P) (w:=w) t ty e e' j hu hj b n cap ⟨cur⟩ hbk b' k cap' news (by rw[n1,hs]) n2 h1 hroom hfit
    rw[hs]at hr
    refine⟨_,_,hr,rfl,rfl,rfl,Ku _,.inr (.inl ⟨b,e',cap,cur.take (n*te.size)++news++cur.drop (n*te.size+news.length),rfl,rfl,setRow_heap w b _ _ e' _ hbk,λb2 hne=>setRow_other w b b2 _ hne,by simp,hroom,hmx,?_,?_⟩)⟩
    ·rw[hs]at hfit;have hfit:n*te.size+news.length≤cur.length:=hfit;simp only[IT,Na,hlo];omega
    ·refine⟨?_,λh=>by omega⟩
     rw[List.take_left'];rw[IT,hlo,n1,← OI]
   ·have holds:∀(k:Nat)(v:Value),(cur.take (n*te.size))[k]? = some v→w.cell? ((⟨b,0,none⟩:Addr).add k)=some v:=by
     intro k v hk;rw[MO]at hk;split at hk
     ·rw[Addr.add_lit,LY];simp only[World.cell?,hbk];simpa using hk
     ·cases hk
    have hr:=run_append_grow (P:=P) w t ty e j z hu hj hz ⟨b,0,none⟩ n cap (cur.take (n*te.size)) (by rw[hlo,hs]) holds b' k cap' news (by rw[n1,hs]) n2 (by omega) h63
     (growslice_fits (by omega) (by rw[hb];exact hby))
    have g1:=grownCap_ge w (n+k) cap e;have g2:=grownCap_le_maxLen w (n+k) cap e hlen
    have harr:((cur.take (n*te.size)).toArray++news.toArray++Builtin.zeroCells z.cells (grownCap w (n+k) cap e - (n+k))) =
      (⟨cur.take (n*te.size)++news++(Builtin.zeroCells z.cells (grownCap w (n+k) cap e - (n+k))).toList⟩:Array Value):=by
     apply Array.ext';simp
    rw[harr]at hr;refine asNew hr rfl g1 g2 ?_ ?_
    ·rw[IT,IT,hlo,n1,hzc,← OI,← OI]
     congr 1
     omega
    ·rw[List.take_left'];rw[IT,hlo,n1,← OI]
theorem d6:∀{a b:NS},Km (a++b)=Km a++Km b
 | [],b=>rfl
 | none::a,b=>d6 (a:=a)
 | some q::a,b=>by obtain⟨x,y⟩:=q;simp only[SE,Km,d6 (a:=a)]
theorem vf{IV:Nat→Prop}{t:Ty}{l:List (ET F t)}{b cap:Nat}{n:Nat×NS}(h:M8 w IV t l (some (b,cap,n))) :
  ∃cur e,w.heap[b]? = some (.cells ⟨cur⟩ e (0,0))∧cur.length=cap*Jf F t∧n.1=l.length∧l.length≤cap∧cap≤maxLen∧n.2.length=l.length*Jf F t∧(b::Km n.2).Nodup∧
   (∀(k:Nat)(d:ND F)(x:Value)(pl:Option (Nat×Nat×Nat)),(cells F t l)[k]? = some d→cur[k]? = some x→n.2[k]? = some pl→LB w IV d x pl)∧∀u∈cur.take (l.length*Jf F t),u.oneCell'=true:=by
 obtain⟨s1,s2,s3,s4,s5,cur,e,s6,s7,s8⟩:=h;rw[aC]at s4;refine⟨cur,e,s6,s7,s1,s2,s3,s4,s5,s8,?_⟩;intro u hu;obtain⟨k,hk⟩:=RD hu;rw[MO]at hk;split at hk
 ·rename_i hlt
  have:=s8 k _ u _ (IR (by rw[aC];exact hlt)) hk (IR (by omega))
  revert this
  generalize(cells F t l)[k]'(by rw[aC];exact hlt)=d
  generalize n.2[k]'(by omega)=pl
  intro h
  cases d with
  | sl t' l'=>
   cases pl with
   | none=>obtain⟨p,rfl⟩:=h.2;rfl
   | some q=>obtain⟨b1,c1,n1⟩:=q;have h2:u = .slice (some ⟨b1,0,none⟩) n1 c1:=h.2;subst h2;rfl
  | _=>exact h.2.2.oneCell
 ·cases hk
theorem tJ{IV Jg:Nat→Prop}{w':World}(hi:∀b,IV b→Jg b)(hw:∀b,IV b→w'.heap[b]? = w.heap[b]?){t:Ty}{l ys:List (ET F t)}{ns RJ:NS}{cur Uv arr:List Value}{b cap:Nat}{e:TypeId}
  (hcur:l.length*Jf F t≤cur.length) (hcur2:ys.length*Jf F t≤Uv.length) (hn1:ns.length=l.length*Jf F t) (hn2:RJ.length=ys.length*Jf F t)
  (h1:∀(k:Nat)(d:ND F)(x:Value)(pl:Option (Nat×Nat×Nat)),(cells F t l)[k]? = some d→cur[k]? = some x→ns[k]? = some pl→LB w IV d x pl)
  (h2:∀(k:Nat)(d:ND F)(x:Value)(pl:Option (Nat×Nat×Nat)),(cells F t ys)[k]? = some d→Uv[k]? = some x→RJ[k]? = some pl→LB w IV d x pl)
  (hh:w'.heap[b]? = some (.cells ⟨arr⟩ e (0,0))) (hlen:(l++ys).length≤cap) (hmx:cap≤maxLen) (harr:arr.length=cap*Jf F t) (htake:arr.take ((l.length+ys.length)*Jf F t)=cur.take (l.length*Jf F t)++Uv.take (ys.length*Jf F t))
  (hnd:(b::(Km ns++Km RJ)).Nodup) (hold:∀b2∈Km ns++Km RJ,w'.heap[b2]? = w.heap[b2]?):M8 w' Jg t (l++ys) (some (b,cap,(l++ys).length,ns++RJ)):=by
 have hc1:(cells F t l).length=l.length*Jf F t:=aC;have hc2:(cells F t ys).length=ys.length*Jf F t:=aC
 refine⟨rfl,hlen,hmx,?_,by rw[d6];exact hnd,arr,e,hh,harr,?_⟩
 ·rw[aC,IT,IT,hn1,hn2,OI]
 ·intro k d x pl p1 p2 p3;rw[dl]at p1
  have hk:k<(l.length+ys.length)*Jf F t:=by have:=(IS.1 p1).1;rw[IT,hc1,hc2,← OI]at this;exact this
  have p2':(arr.take ((l.length+ys.length)*Jf F t))[k]? = some x:=by rw[MO,if_pos hk];exact p2
  rw[htake]at p2'
  have e1:(cur.take (l.length*Jf F t)).length=l.length*Jf F t:=by rw[Ld];omega
  have fin:∀{d:ND F}{pl:Option (Nat×Nat×Nat)},(∀b c,pl=some (b,c)→b∈Km ns++Km RJ)→LB w IV d x pl→LB w' Jg d x pl:=λhm h=>h.Ml hi hw (λb c e=>hold b (hm b c e));by_cases hk1:k<l.length*Jf F t
  ·rw[Mv (by omega)]at p1
   rw[Mv (by omega),MO,if_pos hk1]at p2'
   rw[Mv (by omega)]at p3
   refine fin ?_ (h1 k d x pl p1 p2' p3);rintro b c rfl;exact WA _ (eX p3)
  ·rw[Nc (by omega),hc1]at p1
   rw[Nc (by omega),e1,MO]at p2'
   rw[Nc (by omega),hn1]at p3
   split at p2'
   ·refine fin ?_ (h2 _ d x pl p1 p2' p3);rintro b c rfl;exact WC _ (eX p3)
   ·cases p2'
theorem r7(hT:Js P T)(hm:Je own g w m)(hd:∀id,u id=false→g.ids id=none)(hall:∀b,w.heap.size≤b→own.o b)(hfr:u c=false)
  {t e:TypeId} {i te:TI F} (ht:T t=some i) (hde:i.desc = .slice e) (hte:T e=some te) (hz0:0<te.size) {tt:Ty} (hsz:Jf F tt=te.size) {x y:Operand}
  (ho:o.op = .call { callee:=.builtin .append,args:=#[x,y],argTypes:=#[t,t] }) {l0 ys r:List (ET F tt)} (hr:app te.bytes l0 ys=some r) {rm:List Nat} {WH ply:Pl}
  (hx:M8 w g.IV tt l0 WH) (hy:M8 w g.IV tt ys ply) (hxv:Lf WH (a.eval x)) (hyv:Lf ply (a.eval y))
  (hbx:∀b0 c,WH=some (b0,c)→∀b∈b0::Km c.2.2,∃r∈rm,∃B0,m r=some B0∧B0.owned=true∧g.blk r b) (hby:∀b0 c,ply=some (b0,c)→∀b∈b0::Km c.2.2,∃r∈rm,∃B0,m r=some B0∧B0.owned=true∧g.blk r b)
  (hdj:∀b0 c b1 c1,WH=some (b0,c)→ply=some (b1,c1)→∀b∈b0::Km c.2.2,b∉b1::Km c1.2.2) :
  M0 P own m u g w o a c { val:=.c (.KP c),mw:=rm.map (λr=>(r,none))++[(c,some (.KM tt r))],nu:=1 }:=by
 have MP:∀{v:Value}{w':World},(Builtin.append_ #[t,t] o.type #[a.eval x,a.eval y]).run P w = .ok v w'→(execOp a.eval o).run P w = .ok (.value v) w':=by intro v w' hr;simp only[execOp,ho,resolve,invoke,builtin,LC,MI,LV,QeF,KZ,Lx,hr]
 obtain⟨rfl,v3,v4⟩:=nL hr;have OQ:g.ids c=none:=hd c hfr;have hlen:(l0++ys).length=l0.length+ys.length:=IT
 have fin:∀{v:Value}{w':World}{pl:Pl},(execOp a.eval o).run P w = .ok (.value v) w'→Je own (g.name c pl) w' (Kc m (rm.map (λr=>(r,none))++[(c,some (.KM tt (l0++ys)))]))∧
   Stp m g w (g.name c pl) w'→Jz (F:=F) (g.name c pl) w' (.KP c) v→M0 P own m u g w o a c { val:=.c (.KP c),mw:=rm.map (λr=>(r,none))++[(c,some (.KM tt (l0++ys)))],nu:=1 }:=by
  intro v w' pl hr k k3;intro next Q hn;unfold Oper.wp;rw[hr];refine hn v w' (g.name c pl) (.c k3) k.1 k.2 ?_;intro id hu' hx';have hx':id<c∨c+1≤id:=hx'
  have:id≠c:=by omega
  rw[bE _ _ _ this];exact hd id hu'
 have low:∀{b:Nat},(∃r∈rm,∃B0,m r=some B0∧B0.owned=true∧g.blk r b)→b<w.heap.size:=by rintro b ⟨r,_,B0,h1,h2,h3⟩;exact(hm.ok r B0 h1).place hm.IV (Jw.MQ h2) h3
 have hX:∃(ns:NS)(cur:List Value),ns.length=l0.length*te.size∧l0.length*te.size≤cur.length∧(Km ns).Nodup∧(∀(k:Nat)(d:ND F)(x:Value)(pl:Option (Nat×Nat×Nat)),(cells F tt l0)[k]? = some d→cur[k]? = some x→ns[k]? = some pl→LB w g.IV d x pl)∧
   (∀b∈Km ns,∃b0 c,WH=some (b0,c)∧b∈Km c.2.2∧b≠b0)∧
   (((∃p,a.eval x = .slice p 0 0)∧l0.length=0∧cur = [])∨∃b e' cap,a.eval x = .slice (some ⟨b,0,none⟩) l0.length cap∧w.heap[b]? = some (.cells ⟨cur⟩ e' (0,0))∧l0.length≤cap∧cap≤maxLen∧cur.length=cap*te.size∧∃c,WH=some (b,c)∧b∉Km ns):=by
  cases WH with
  | none=>
   have hx:l0 = []:=hx;subst hx
   exact⟨[],[],by simp,by simp,Zt,λk d x pl h=>by simp[cells]at h,λb hb=>by simp[Km]at hb,.inl ⟨hxv,rfl,rfl⟩⟩
  | some q=>
   obtain⟨b,cap,n⟩:=q;obtain⟨cur,e',s1,s2,s3,s4,s5,s6,s7,s8,s9⟩:=vf hx;have s7':=Pv.1 s7;have hxv:a.eval x = .slice (some ⟨b,0,none⟩) n.1 cap:=hxv;rw[hsz]at s2 s6
   refine⟨n.2,cur,s6,by rw[s2];exact MW _ s4,s7'.2,s8,λb1 hb=>⟨b,_,rfl,hb,λe=>s7'.1 (e▸hb)⟩,.inr ⟨b,e',cap,by rw[hxv,s3],s1,s4,s5,s2,_,rfl,s7'.1⟩⟩
 have hY:∃(ns:NS)(cur:List Value),ns.length=ys.length*te.size∧ys.length*te.size≤cur.length∧(Km ns).Nodup∧(∀(k:Nat)(d:ND F)(x:Value)(pl:Option (Nat×Nat×Nat)),(cells F tt ys)[k]? = some d→cur[k]? = some x→ns[k]? = some pl→LB w g.IV d x pl)∧
   (∀b∈Km ns,∃b0 c,ply=some (b0,c)∧b∈Km c.2.2)∧
   (((∃p cap,a.eval y = .slice p 0 cap)∧ys.length=0∧cur.take (ys.length*te.size) = [])∨∃b' cap',a.eval y = .slice (some b') ys.length cap'∧0<ys.length∧(cur.take (ys.length*te.size)).length=ys.length*te.size∧(∀(j:Nat)(u:Value),(cur.take (ys.length*te.size))[j]? = some u→w.cell? (b'.add j)=some u)∧∀u∈cur.take (ys.length*te.size),u.oneCell'=true):=by
  cases ply with
  | none=>
   have hy:ys = []:=hy;subst hy;obtain⟨p,hyv⟩:=hyv
   exact⟨[],[],by simp,by simp,Zt,λk d x pl h=>by simp[cells]at h,λb hb=>by simp[Km]at hb,.inl ⟨⟨p,0,hyv⟩,rfl,by simp⟩⟩
  | some q=>
   obtain⟨b,cap,n⟩:=q;obtain⟨cur,e',s1,s2,s3,s4,s5,s6,s7,s8,s9⟩:=vf hy;have s7':=Pv.1 s7;have hyv:a.eval y = .slice (some ⟨b,0,none⟩) n.1 cap:=hyv;rw[hsz]at s2 s6 s9
   have hle:ys.length*te.size≤cur.length:=by rw[s2];exact MW _ s4
   refine⟨n.2,cur,s6,hle,s7'.2,s8,λb1 hb=>⟨b,_,rfl,hb⟩,?_⟩;by_cases h0:ys.length=0
   ·exact .inl ⟨⟨_,cap,by rw[hyv,s3,h0]⟩,h0,by rw[h0];simp⟩
   ·refine .inr ⟨_,cap,by rw[hyv,s3],by omega,by rw[Ld];omega,?_,s9⟩
    intro j u hj;rw[MO]at hj;split at hj
    ·rw[Addr.add_lit,LY];simp only[World.cell?,s1];simpa using hj
    ·cases hj
 obtain⟨ns,cur,x1,x2,x3,x4,x5,x6⟩:=hX;obtain⟨RJ,Uv,y1,y2,y3,y4,y5,y6⟩:=hY
 have inX:∀b∈Km ns,∃r∈rm,∃B0,m r=some B0∧B0.owned=true∧g.blk r b:=by intro b hb;obtain⟨b0,c,e1,e2,_⟩:=x5 b hb;exact hbx b0 c e1 b (Pw _ e2)
 have inY:∀b∈Km RJ,∃r∈rm,∃B0,m r=some B0∧B0.owned=true∧g.blk r b:=by intro b hb;obtain⟨b0,c,e1,e2⟩:=y5 b hb;exact hby b0 c e1 b (Pw _ e2)
 have hXY:(Km ns++Km RJ).Nodup:=by refine Wz.2 ⟨x3,y3,?_⟩;rintro b hb b1 hb1 rfl;obtain⟨b0,c,e1,e2,_⟩:=x5 b hb;obtain⟨b1,c1,f1,f2⟩:=y5 b hb1;exact hdj _ _ _ _ e1 f1 b (Pw _ e2) (Pw _ f2)
 have Xf:∀b∈Km ns++Km RJ,∃r∈rm,∃B0,m r=some B0∧B0.owned=true∧g.blk r b:=by
  intro b hb;rcases Mi.1 hb with hb | hb
  ·exact inX b hb
  ·exact inY b hb
 have hx0:((∃p,a.eval x = .slice p 0 0)∧l0.length=0∧cur = [])∨∃b e' cap,a.eval x = .slice (some ⟨b,0,none⟩) l0.length cap∧w.heap[b]? = some (.cells ⟨cur⟩ e' (0,0))∧l0.length≤cap∧cap≤maxLen∧cur.length=cap*te.size:=by
  rcases x6 with h | ⟨b,e',cap,h1,h2,h3,h4,h5,_⟩
  ·exact .inl h
  ·exact .inr ⟨b,e',cap,h1,h2,h3,h4,h5⟩
 obtain⟨v,w',hrun,o1,o2,o3,o4,hcase⟩:=Bm (P:=P) (w:=w) (ty:=o.type) hT ht hde hte hz0 hx0 y6 (by rw[← hlen];exact v3) (by rw[← hlen];exact v4)
 have hrun':=MP hrun;rw[← hsz]at *;rcases hcase with⟨h0,⟨p,rfl⟩,_,rfl⟩ | ⟨b,e',cap,arr,hxe,rfl,h1,h2,h3,h4,h5,h6,h7,h8⟩ | ⟨e',cap,arr,rfl,h1,h2,h3,h4,h5,h6,h7⟩
 ·have hnil:l0++ys = []:=O1 (by omega)
  refine fin (pl:=none) hrun' (fT hm OQ (λ_ _ h=>by cases h) rfl rfl rfl (Ku _) (Ku _) (λ_ _ _=>rfl) (λg' _ hi=>⟨none,hi,hnil⟩)) (.ML p (a9 _ _ _))
 ·rcases x6 with⟨⟨p,hp⟩,_,rfl⟩ | ⟨b1,e1,cap1,hp,hh,_,_,_,c1,hpl,hnb⟩
  ·rw[hxe]at hp
   injection hp with e1 e2 e3
   subst e3
   have hy0:ys.length=0:=by omega
   have hnil:l0++ys = []:=O1 (by omega)
   have:=h8 hy0;subst this
   refine fin (pl:=none) hrun' (fT hm OQ (λ_ _ h=>by cases h) rfl rfl rfl (Ku _) (Ku _) (λ_ _ _=>rfl) (λg' _ hi=>⟨none,hi,hnil⟩)) ?_
   rw[e2,hy0];exact .ML _ (a9 _ _ _)
  ·rw[hxe]at hp;cases hp;have hblk:=hbx b c1 hpl b WT
   have anO:b∉Km RJ:=by intro hb;obtain⟨b2,c2,f1,f2⟩:=y5 b hb;exact hdj _ _ _ _ hpl f1 b WT (Pw _ f2)
   have hnd:(b::(Km ns++Km RJ)).Nodup:=Pv.2 ⟨λhb=>(Mi.1 hb).elim hnb anO,hXY⟩
   refine fin (pl:=some (b,cap,(l0++ys).length,ns++RJ)) hrun' (fT hm OQ ?_ o1 o2 o3 o4 (by omega) ?_ ?_) ?_
   ·intro b0 c0 e0 b1 hb1;cases e0;rcases Li.1 hb1 with rfl | hb1
    ·exact .inr hblk
    ·simp only[d6]at hb1;exact .inr (Xf b1 hb1)
   ·intro b2 hb2 hno;refine h2 b2 ?_;rintro rfl;obtain⟨r,hr,B0,q1,q2,q3⟩:=hblk;exact hno r hr B0 q1 q2 q3
   ·intro g' hle hi
    refine⟨_,hi,tJ hle.IV hle.heap x2 y2 x1 y1 x4 y4 h1 (by omega) h5 h6 h7 hnd ?_⟩
    intro b2 hb2;refine h2 b2 ?_;rintro rfl;exact(Pv.1 hnd).1 hb2
   ·rw[← hlen]
    exact .KP (n:=((l0++ys).length,ns++RJ)) (a9 _ _ _) (by dsimp only;omega) h5
 ·have hnd:(w.heap.size::(Km ns++Km RJ)).Nodup:=Pv.2 ⟨λhb=>Nat.lt_irrefl _ (low (Xf _ hb)),hXY⟩
  refine fin (pl:=some (w.heap.size,cap,(l0++ys).length,ns++RJ)) hrun' (fT hm OQ ?_ o1 o2 o3 o4 (by omega) ?_ ?_) ?_
  ·intro b0 c0 e0 b1 hb1;cases e0;rcases Li.1 hb1 with rfl | hb1
   ·exact .inl ⟨Ku _,by omega,hall _ (Ku _)⟩
   ·simp only[d6]at hb1;exact .inr (Xf b1 hb1)
  ·intro b2 hb2 _;exact h2 b2 hb2
  ·intro g' hle hi
   exact⟨_,hi,tJ hle.IV hle.heap x2 y2 x1 y1 x4 y4 h1 (by omega) h5 h6 h7 hnd (λb2 hb2=>h2 b2 (low (Xf b2 hb2)))⟩
  ·rw[← hlen]
   exact .KP (n:=((l0++ys).length,ns++RJ)) (a9 _ _ _) (by dsimp only;omega) h5
theorem qx(hm:Je own g w m){id:Nat}{t:Ty}{l:List (ET F t)}(h:m id=some (.KM t l)){v:Value}(hv:Jz (F:=F) g w (.KP id) v):∃pl,g.ids id=some pl∧M8 w g.IV t l pl∧Lf pl v:=by
 obtain⟨pl,k1,k2⟩:=hm.ok id _ h;refine⟨pl,k1,k2,?_⟩;rcases a_ hv with⟨hi,p,rfl⟩ | ⟨b,c,n,hi,h1,h2,rfl⟩
 ·rw[hi]at k1;cases k1;exact⟨p,rfl⟩
 ·rw[hi]at k1;cases k1;rfl
theorem zI(hT:Js P T){t0 t1:TypeId}{x y:Operand}(ho:o.op = .call { callee:=.builtin .append,args:=#[x,y],argTypes:=#[t0,t1] }):Rule P o vals mm c K (wa T vals mm c K t0 t1):=by
 unfold wa;refine au (λ_=>ah) (λRz=>?_)
 have anC:t1=t0:=by simpa using Rz
 subst anC;split
 ·rename_i e sz bt zero _ _ ht;split
  ·exact ah
  ·rename_i te hte;split
   ·exact ah
   ·rename_i tt Rz;have hsz:=hT.ty e te tt hte Rz;refine au (λ_=>ah) (λhz0=>?_);split
    ·rename_i rm l0 ys hnr;refine aD λr hr=>?_;intro r' hr';refine⟨_,hr',?_⟩;intro own g w a m u hle hm hd hall hfr hrep;rw[ho]at hrep;simp only[Op.operands,Call.operands,KZ,Lx,QdM,SL,OY]at hrep;unfold Ag at hnr;split at hnr
     ·rename_i id2;split at hnr
      ·rename_i t2 l2 hrow;split at hnr
       ·rename_i hk;subst hk;simp only[KV,Prod.mk.injEq]at hnr;obtain⟨rfl,rfl,h⟩:=hnr;subst h;obtain⟨h1,h2⟩:=KG hrep;obtain⟨pl,k1,k2,k3⟩:=qx hm (hle _ _ hrow) (aV h2)
        refine r7 (WH:=none) hT hm hd hall (hfr 0 (by simp)) ht rfl hte (by omega) hsz ho hr rfl k2 (mg h1) k3 (λ_ _ h=>by cases h) ?_ (λ_ _ _ _ h=>by cases h)
        rintro b0 c rfl b hb
        exact⟨id2,by simp,_,hle _ _ hrow,rfl,b0,c,k1,hb⟩
       ·cases hnr
      ·cases hnr
     ·rename_i id id2;split at hnr
      ·rename_i t1 l1 t2 l2 VY hrow;split at hnr
       ·rename_i hk;subst hk;split at hnr
        ·rename_i hk;subst hk;split at hnr
         ·cases hnr
         ·rename_i hne;simp only[KV,Prod.mk.injEq]at hnr;obtain⟨rfl,h,h'⟩:=hnr;subst h h';obtain⟨h1,h2⟩:=KG hrep;obtain⟨pl,k1,k2,k3⟩:=qx hm (hle _ _ hrow) (aV h2);obtain⟨WH,q1,q2,q3⟩:=qx hm (hle _ _ VY) (aV h1)
          refine r7 hT hm hd hall (hfr 0 (by simp)) ht rfl hte (by omega) hsz ho hr q2 k2 q3 k3 ?_ ?_ ?_
          ·rintro b0 c rfl b hb
           exact⟨id,by simp,_,hle _ _ VY,rfl,b0,c,q1,hb⟩
          ·rintro b0 c rfl b hb
           exact⟨id2,by simp,_,hle _ _ hrow,rfl,b0,c,k1,hb⟩
          ·rintro b0 c b1 c1 rfl rfl b hb hb1;have:=hm.Ou id id2 _ _ b (hle _ _ VY) (hle _ _ hrow) rfl rfl ⟨b0,c,q1,hb⟩ ⟨b1,c1,k1,hb1⟩;subst this;exact hne (bc _)
        ·cases hnr
       ·cases hnr
      ·cases hnr
     ·cases hnr
    split
    ·rename_i dx dy;split
     ·exact ah
     ·rename_i ys hys;split
      ·refine aD λr hr=>?_;intro r' hr';refine⟨_,hr',?_⟩;intro own g w a m u hle hm hd hall hfr hrep;rw[ho]at hrep;simp only[Op.operands,Call.operands,KZ,Lx,QdM,SL,OY]at hrep;obtain⟨h1,h2⟩:=KG hrep;obtain⟨p,hp⟩:=mg h1
       exact tP (rm:=[]) hT hm hd hall (hfr 0 (by simp)) ht rfl hte (by omega) hsz ho hr (uT hm hle hys h2) (.inl ⟨p,hp,rfl⟩)
      ·rename_i id;split
       ·rename_i t' l hrow;split
        ·rename_i hk;subst hk;refine aD λr hr=>?_;intro r' hr';refine⟨_,hr',?_⟩;intro own g w a m u hle hm hd hall hfr hrep;rw[ho]at hrep;simp only[Op.operands,Call.operands,KZ,Lx,QdM,SL,OY]at hrep;obtain⟨h1,h2⟩:=KG hrep
         refine tP (rm:=[id]) hT hm hd hall (hfr 0 (by simp)) ht rfl hte (by omega) hsz ho hr (uT hm hle hys h2) ?_
         rcases a_ (aV h1)with⟨hi,p,hv⟩ | ⟨b,cap,n,hi,h3,h4,hv⟩
         ·rcases hm.ok id _ (hle _ _ hrow)with⟨_,rfl⟩ | ⟨_,_,_,_,k1,_⟩
          ·exact .inl ⟨p,hv,rfl⟩
          ·rw[hi]at k1;cases k1
         ·rcases hm.ok id _ (hle _ _ hrow)with⟨k1,_⟩ | ⟨b',cap',cur,e',k1,k2,k3,k4,k5,k6⟩
          ·rw[hi]at k1;cases k1
          ·rw[hi]at k1;cases k1;exact .inr ⟨id,b,cap,cur,e',rfl,hv,hle _ _ hrow,hi,k2,k3,k4,k5,k6⟩
        ·exact ah
       ·exact ah
      ·exact ah
    ·exact ah
 ·exact ah
theorem wD{t:Ty}{l ys:List (ET F t)}{a n:Nat}(h:a+min n ys.length≤l.length):cells F t (LD l a n ys)=(cells F t l).take (a*Jf F t)++(cells F t ys).take (n*Jf F t)++(cells F t l).drop (a*Jf F t+((cells F t ys).take (n*Jf F t)).length):=by
 have h1:cells F t (l.take a)=(cells F t l).take (a*Jf F t):=by have:=fm (F:=F) (l:=l) (a:=0) (n:=a);simpa[Fx.sub]using this
 have h2:cells F t (ys.take n)=(cells F t ys).take (n*Jf F t):=by have:=fm (F:=F) (l:=ys) (a:=0) (n:=n);simpa[Fx.sub]using this
 have h3:∀k,cells F t (l.drop k)=(cells F t l).drop (k*Jf F t):=by
  intro k;have:=fm (F:=F) (l:=l) (a:=k) (n:=l.length);unfold Fx.sub at this
  rw[XE (by simp)]at this
  rw[this,XE];rw[Na,aC];omega
 unfold LD;rw[dl,dl,h1,h2,h3]
 congr 2
 rw[Ld,aC,OI]
 congr 1
 exact(QdV _ _ _).symm
theorem xG{t t1 ty e:TypeId}{j:TypeInfo}(hu:P.underlying t=some (.slice e))(hj:P.info? e=some j){b q dLen dCap:Nat}{p:Option Addr}{sLen sCap:Nat}{cur news:List Value}{e':TypeId}
  (hb:w.heap[b]? = some (.cells ⟨cur⟩ e' (0,0))) (hl:news.length=sLen*j.size) (hp0:p=none→sLen=0) (hp:∀p',p=some p'→∀(k:Nat)(x:Value),news[k]? = some x→w.cell? (p'.add k)=some x)
  (h1:∀x∈news,x.oneCell'=true) (hfit:q+(news.take (dLen*j.size)).length≤cur.length) :
  (Builtin.copy_ #[t,t1] ty #[.slice (some ⟨b,q,none⟩) dLen dCap,.slice p sLen sCap]).run P w =
    .ok (goInt ((min sLen dLen:Nat):Int)) (w.setRow b (cur.take q++news.take (dLen*j.size)++cur.drop (q+(news.take (dLen*j.size)).length)).toArray):=by
 have hn:(news.take (dLen*j.size)).length=(min sLen dLen)*j.size:=by rw[Ld,hl,QdV,Nat.min_comm]
 have hst:=run_storeCells_at P b q e' (news.take (dLen*j.size)) 0 ⟨cur⟩ w hb (by simpa using hfit) (λv hv=>h1 v (U3 hv))
 simp only[RS]at hst
 cases p with
 | none=>
  have h0:=hp0 rfl;subst h0
  have hnil:news = []:=O1 (by simpa using hl)
  subst hnil;simp only[List.take_nil]at hst ⊢;have hm:Nat.min 0 dLen=0:=Nat.zero_min dLen;have hm2:min 0 dLen=0:=Nat.zero_min dLen;simp only[Builtin.copy_,LC,MI,run_underlying hu,Builtin.lenOf,Builtin.firstCells,sizeOf,typeInfo,run_program,hj,LV,List.getElem?_toArray,hst,hm,hm2];simp[Builtin.copy_,run_underlying hu,Builtin.lenOf,Builtin.firstCells,sizeOf,typeInfo,hj,hst,hm]
 | some p'=>
  have hf:=run_firstCells_some (P:=P) w j.size (min sLen dLen) p' sLen sCap (news.take (dLen*j.size)) hn (λk x hx=>by
   rw[MO]at hx;split at hx
   ·exact hp p' rfl k x hx
   ·cases hx)
  have hm:Nat.min sLen dLen=min sLen dLen:=rfl
  have hc:(((min sLen dLen:Nat)):Int)=min (sLen:Int) (dLen:Int):=by omega
  simp[Builtin.copy_,run_underlying hu,Builtin.lenOf,sizeOf,typeInfo,hj,hf,hm,hst,hc]
theorem jR{α : Type}{l ys:List α}{a n:Nat}(h:a+min n ys.length≤l.length):(LD l a n ys).length=l.length:=by unfold LD;simp only[IT,Ld,Na];omega
theorem wU(hT:Js P T)(hm:Je own g w m)(hd:∀id,u id=false→g.ids id=none)
  {t t1 e:TypeId} {i te:TI F} (ht:T t=some i) (hde:i.desc = .slice e) (hte:T e=some te) {tt:Ty} (hsz:Jf F tt=te.size) {x y:Operand}
  (ho:o.op = .call { callee:=.builtin .copy,args:=#[x,y],argTypes:=#[t,t1] }) {l ys:List (ET F tt)} {id off n:Nat} (hrow:m id=some (.row tt l)) (hsrc:Sv g w tt (a.eval y) ys)
  (hdst:(g.ids id=none∨g.ids id=some none)∧off=0∧n=0∧(∃p,a.eval x = .slice p 0 0)∨∃b q dCap cap,g.ids id=some (some (b,cap,l.length,[]))∧a.eval x = .slice (some ⟨b,q,none⟩) n dCap∧off+n≤l.length∧(n=0∨q=off*Jf F tt)) :
  M0 P own m u g w o a c { val:=.c (.im (.i .i64 (min n ys.length:Nat))),mw:=[(id,some (.row tt (LD l off n ys)))] }:=by
 have hu:=hT.und _ _ ht;rw[hde]at hu;obtain⟨j,hj,hs,hb,z,hz,hzs,hzl,WI⟩:=hT.info e te hte
 have MP:∀{v:Value}{w':World},(Builtin.copy_ #[t,t1] o.type #[a.eval x,a.eval y]).run P w = .ok v w'→(execOp a.eval o).run P w = .ok (.value v) w':=by intro v w' hr;simp only[execOp,ho,resolve,invoke,builtin,LC,MI,LV,QeF,KZ,Lx,hr]
 obtain⟨q',cap',news,hyv,n1,n0,n2,n3⟩:=hsrc
 have same:∀{l':List (ET F tt)},l'=l→Kc m [(id,some (.row tt l'))]=m:=by
  rintro l' rfl
  funext x
  simp only[Kc];split
  ·rename_i hx;rw[← M5 hx,hrow]
  ·rfl
 have h1:∀x∈news,x.oneCell'=true:=by
  intro x hx;obtain⟨k,hk⟩:=RD hx
  have hlt:k<(cells F tt ys).length:=by have:=(IS.1 hk).1;rw[aC];omega
  exact(n3 k _ x (IR hlt) hk).oneCell
 rcases hdst with⟨hid,rfl,rfl,p,hxv⟩ | ⟨b,q,dCap,cap,hid,hxv,hoff,hq⟩
 ·have hl:LD l 0 0 ys=l:=by simp[LD]
  have hrun:(execOp a.eval o).run P w = .ok (.value (goInt 0)) w:=by
   refine MP ?_;rw[hxv,hyv];have e1:Nat.min ys.length 0=0:=Nat.min_zero _
   cases p<;>cases q'<;>simp[Builtin.copy_,run_underlying hu,Builtin.lenOf,Builtin.firstCells,sizeOf,typeInfo,hj,e1,storeCells,loadCells,loadCellsFrom]
  intro next Q hn;unfold Oper.wp;rw[hrun]
  refine hn _ w g ?_ (by rw[same hl];exact hm) (.refl _ _ _) (λid hu _=>hd id hu)
  have:((min 0 ys.length:Nat):Int)=0:=by simp
  rw[this];exact LH _ _
 ·rcases hm.ok id _ hrow with⟨k1,_⟩ | ⟨b',cap2,cur,e',k1,k2,k3,k4,k5,k6⟩
  ·rw[k1]at hid;cases hid
  ·rw[k1]at hid;cases hid;have hcl:(cells F tt l).length=l.length*Jf F tt:=aC
   have hcur:(cells F tt l).length≤cur.length:=by rw[hcl,k5];exact MW _ k3
   have hm1:off+min n ys.length≤l.length:=by omega
   by_cases hn0:n=0
   ·
    subst hn0
    have hrun:=xG (P:=P) (w:=w) (t1:=t1) (ty:=o.type) (dLen:=0) (dCap:=dCap) (q:=0) (p:=q') (sLen:=ys.length) (sCap:=cap') hu hj k2 (by rw[n1,hsz,hs]) (λh=>by rw[(n0 h).1];rfl) n2 h1 (by simp)
    have hrun':(execOp a.eval o).run P w = .ok (.value (goInt 0)) w:=by
     refine MP ?_;rw[hxv,hyv];have e1:Nat.min ys.length 0=0:=Nat.min_zero _
     cases q'<;>simp[Builtin.copy_,run_underlying hu,Builtin.lenOf,Builtin.firstCells,sizeOf,typeInfo,hj,e1,storeCells,loadCells,loadCellsFrom]
    have hl:LD l off 0 ys=l:=by simp[LD]
    intro next Q hn;unfold Oper.wp;rw[hrun']
    refine hn _ w g ?_ (by rw[same hl];exact hm) (.refl _ _ _) (λid hu _=>hd id hu)
    have:((min 0 ys.length:Nat):Int)=0:=by simp
    rw[this];exact LH _ _
   ·have hq:q=off*Jf F tt:=hq.resolve_left hn0;subst hq
    have htk:(news.take (n*j.size)).length=min n ys.length*Jf F tt:=by rw[Ld,n1,hs,← hsz,QdV]
    have hfit:off*Jf F tt+(news.take (n*j.size)).length≤cur.length:=by rw[htk,← OI];have:(off+min n ys.length)*Jf F tt≤l.length*Jf F tt:=MW _ hm1;omega
    have hrun:=xG (P:=P) (w:=w) (t1:=t1) (ty:=o.type) (dLen:=n) (dCap:=dCap) (q:=off*Jf F tt) (p:=q') (sLen:=ys.length) (sCap:=cap') hu hj k2 (by rw[n1,hsz,hs]) (λh=>by rw[(n0 h).1];rfl) n2 h1 hfit
    obtain⟨w1,w2⟩:=sD (B':=.row tt (LD l off n ys)) (arr:=cur.take (off*Jf F tt)++news.take (n*j.size)++cur.drop (off*Jf F tt+(news.take (n*j.size)).length)) hm hrow rfl k1 k2 (by
     intro hh hle'
     refine .inr ⟨b,cap,_,e',by rw[jR hm1];exact k1,hh,by rw[jR hm1];exact k3,k4,?_,?_⟩
     ·simp only[IT,Ld,Na];rw[Ld]at hfit;omega
     ·intro k d x p q;refine Jm.le hle' ?_;rw[wD hm1]at p
      have e1:n*j.size=n*Jf F tt:=by rw[hs,hsz]
      rw[e1]at q htk;refine qG (w:=w) (IV:=g.IV) (cs:=cells F tt l) (ds:=(cells F tt ys).take (n*Jf F tt)) (cur:=cur) (vs:=news.take (n*Jf F tt)) (q:=off*Jf F tt) ?_ hcur k6 ?_ ?_ k d x p q
      ·rw[Ld,aC,aC,QdV,← OI];exact MW _ hm1
      ·rw[htk,Ld,aC,QdV]
      ·intro k d x h3 h4;rw[MO]at h3 h4;split at h3
       ·rename_i hk;rw[if_pos hk]at h4;exact n3 k d x h3 h4
       ·cases h3)
    intro next Q hn;unfold Oper.wp
    rw[MP (by rw[hxv,hyv];exact hrun)]
    refine hn _ _ g ?_ w1 w2 (λid hu _=>hd id hu);rw[Nat.min_comm];exact LH _ _
theorem CZ(hT:Js P T){t t1:TypeId}{x y:Operand}(ho:o.op = .call { callee:=.builtin .copy,args:=#[x,y],argTypes:=#[t,t1] }):Rule P o vals mm c K (Vv T vals mm K t):=by
 unfold Vv;split
 ·rename_i e _ _ _ _ _ ht;split
  ·exact ah
  ·rename_i te hte;split
   ·rename_i id dy;split
    ·rename_i tt l hrow;refine au (λhsz=>?_) (λ_=>ah);split
     ·rename_i ys hys;intro r' hr';refine⟨_,hr',?_⟩;intro own g w a m u hle hm hd hall hfr hrep;rw[ho]at hrep;simp only[Op.operands,Call.operands,KZ,Lx,QdM,SL,OY]at hrep;obtain⟨h1,h2⟩:=KG hrep;refine wU hT hm hd ht rfl hte hsz ho (hle _ _ hrow) (uT hm hle hys h2) ?_;rcases a_ (aV h1)with⟨hi,p,hv⟩ | ⟨b,cap,n,hi,h3,h4,hv⟩
      ·rcases hm.ok id _ (hle _ _ hrow)with⟨_,rfl⟩ | ⟨_,_,_,_,k1,_⟩
       ·exact .inl ⟨.inr hi,rfl,rfl,p,hv⟩
       ·rw[hi]at k1;cases k1
      ·obtain⟨rfl,_,_⟩:=bU hm (hle _ _ hrow) hi
       exact .inr ⟨b,0,cap,cap,hi,hv,by omega,.inr (by simp)⟩
     ·exact ah
    ·exact ah
   ·rename_i id sz off n dy;split
    ·rename_i tt l hrow;refine au (λhsz=>?_) (λ_=>ah);simp only[KQ,decide_eq_true_eq,beq_iff_eq]at hsz;obtain⟨hsz,rfl⟩:=hsz;split
     ·rename_i ys hys;intro r' hr';refine⟨_,hr',?_⟩;intro own g w a m u hle hm hd hall hfr hrep;rw[ho]at hrep;simp only[Op.operands,Call.operands,KZ,Lx,QdM,SL,OY]at hrep;obtain⟨h1,h2⟩:=KG hrep;refine wU hT hm hd ht rfl hte hsz ho (hle _ _ hrow) (uT hm hle hys h2) ?_;rcases kX (aV h1)with⟨hi,rfl,rfl,p,hv⟩ | ⟨b,cap,len,q,hi,h3,h4,h5,h6,hv⟩
      ·exact .inl ⟨.inr hi,rfl,rfl,p,hv⟩
      ·obtain⟨rfl,_,_⟩:=bU hm (hle _ _ hrow) hi;refine .inr ⟨b,q,_,cap,hi,hv,h3,?_⟩;rcases h5 with⟨h5,_⟩ | h5
       ·left;omega
       ·right;rw[h5,hsz]
     ·exact ah
    ·exact ah
   ·exact ah
 ·exact ah
end
set_option linter.unusedVariables false
set_option linter.unusedSimpArgs false
abbrev RI(x:Nat×Nat×Nat):Nat×Nat×Nat×NS:=(x.1,x.2.1,x.2.2,[])
def Ht:List Pl→List Nat
 | []=>[]
 | some (b,c)::l=>b::(Km c.2.2++Ht l)
 | none::l=>Ht l
section
variable{F:Fam}{P:Program}
def J8(w:World)(IV:Nat→Prop)(ow:List Nat):Nat→List (ND F)→List Value→List Pl→Prop
 | _,[],[],Ja=>Ja = []
 | k,d::ds,v::vs,Ja=>
  if Jp k ow then match d with
   | .sl t l=>∃pl rest,Ja=pl::rest∧LM w IV t l pl∧Pg t pl v∧J8 w IV ow (k+1) ds vs rest
   | _=>False
  else if Jp (k+1000) ow then match d with
   | .sl t l=>∃pl rest,Ja=pl::rest∧M8 w IV t l pl∧Lf pl v∧J8 w IV ow (k+1) ds vs rest
   | _=>False
  else Jm w IV d v∧J8 w IV ow (k+1) ds vs Ja
 | _,_,_,_=>False
def Ky(w:World)(IV:Nat→Prop)(t:Ty)(ow:List Nat)(x:ET F t)(v:Value)(Ja:List Pl):Prop:=
 if t.K4 then∃vs,v = .agg ⟨vs⟩∧J8 w IV ow 0 (Jc F t x) vs Ja else J8 w IV ow 0 (Jc F t x) [v] Ja
def Ph(w:World)(IV:Nat→Prop)(t:Ty)(ow:List Nat)(x:ET F t)(b:Nat)(Ja:List Pl):Prop:=
 ∃arr e,w.heap[b]? = some (.cells ⟨arr⟩ e (0,0))∧J8 w IV ow 0 (Jc F t x) arr Ja
def Vl:Bool→Pl→Value→Prop
 | false,pl,v=>Lf pl v
 | true,pl,v=>∃b c,pl=some (b,c)∧v = .pointer (some ⟨b,0,none⟩)
def Uw(t:Ty)(arr:Bool)(pl:Pl)(v:Value):Prop:=if t.KS=true then∃b,pl=some (b,0,0,[])∧v = .map (some b)else Vl arr pl v
def PkV(w:World)(IV:Nat→Prop)(k:Nat)(ds:List (ND F))(v:Value):Prop:=
 ∃(b1 b2:Nat)(y:Value),v = .pointer (some ⟨b1,0,none⟩)∧IV b1∧IV b2∧w.cell? ⟨b1,0,none⟩=some (.pointer (some ⟨b2,0,none⟩))∧w.cell? ⟨b2,k,none⟩=some y∧L8 w IV (ds,false) y
theorem PkV.lift{w w':World}{IV Jg:Nat→Prop}(hw:∀b,IV b→Jg b∧w'.heap[b]? = w.heap[b]?){k:Nat}{ds:List (ND F)}{v:Value}(h:PkV w IV k ds v):PkV w' Jg k ds v:=by
 obtain⟨b1,b2,y,rfl,h1,h2,h3,h4,h5⟩:=h
 exact⟨b1,b2,y,rfl,(hw _ h1).1,(hw _ h2).1,by rw[KN (hw _ h1).2];exact h3,by rw[KN (hw _ h2).2];exact h4,h5.mono (λb hb=>(hw b hb).1) (λb hb=>(hw b hb).2)⟩
def Held(P:Program)(w:World)(IV:Nat→Prop):(k:Kd)→k.El F→Value→List Pl→List Pl→Prop
 | .v t ow,x,v,Ja,Jo=>Ky w IV t ow x v Ja∧Jo = []
 | .box t ow,x,v,Ja,Jo=>∃(bx:Nat×Nat×Nat)(rest:List Pl),Jo = [some (RI bx)]∧Ja=some (RI bx)::rest∧v = .pointer (some ⟨bx.1,0,none⟩)∧Ph w IV t ow x bx.1 rest
 | .rp t,x,v,Ja,Jo=>Ja = []∧Jo = []∧Jz (F:=F) ⟨λ_=>none,IV,λ_=>False⟩ w (.pt (Jc F t x) 0) v
 | .fn ks r,φ,v,Ja,Jo=>Ja = []∧Jo = []∧PN P F w IV ks r φ v
 | .row t arr,x,v,Ja,Jo=>∃pl,Jo = [pl]∧Ja = [pl]∧LM w IV t x pl∧Uw t arr pl v
 | .OU t,x,v,Ja,Jo=>Ja = []∧Jo = []∧Jz (F:=F) ⟨λ_=>none,IV,λ_=>False⟩ w (.PS (Jc F t x)) v
 | .pk k t,x,v,Ja,Jo=>Ja = []∧Jo = []∧PkV w IV k (Jc F t x) v
 | .ln t,x,v,Ja,Jo=>Ja = []∧Jo = []∧∃I:Nat→Prop,(∀b,I b→b<w.heap.size)∧Ky w I t [] x v []
 | .nb t ow,x,v,Ja,Jo=>∃(bx:Nat×Nat×Nat)(rest:List Pl),Jo = []∧Ja=some (RI bx)::rest∧v = .pointer (some ⟨bx.1,0,none⟩)∧Ph w IV t ow x bx.1 rest
 | .cl _ _,_,_,_,_=>False
def bR(P:Program)(w:World)(IV:Nat→Prop):(ks:List Kd)→HL F ks→List Value→List Pl→List Pl→Prop
 | [],_,vs,Ja,Jo=>vs = []∧Ja = []∧Jo = []
 | .cl f n::ks,a,vs,Ja,Jo=>∃us vs',vs = .func (.func f) ⟨[]⟩ ⟨us⟩::vs'∧us.length=n∧bR P w IV ks a.2 (us++vs') Ja Jo
 | k::ks,a,vs,Ja,Jo=>∃v vs' p1 p2 b1 b2,vs=v::vs'∧Ja=p1++p2∧Jo=b1++b2∧Held P w IV k a.1 v p1 b1∧bR P w IV ks a.2 vs' p2 b2
theorem lV{w:World}{IV:Nat→Prop}{k:Kd}{ks:List Kd}{a:HL F (k::ks)}{vs:List Value}{Ja Jo:List Pl}(hk:k.PE=false)(h:bR P w IV (k::ks) a vs Ja Jo) :
  ∃v vs' p1 p2 b1 b2,vs=v::vs'∧Ja=p1++p2∧Jo=b1++b2∧Held P w IV k a.1 v p1 b1∧bR P w IV ks a.2 vs' p2 b2:=by
 cases k with
 | cl f n=>cases hk
 | _=>exact h
theorem rI{w:World}{IV:Nat→Prop}{k:Kd}{ks:List Kd}{a:HL F (k::ks)}{vs:List Value}{Ja Jo:List Pl}(hk:k.PE=false)
  (h:∃v vs' p1 p2 b1 b2,vs=v::vs'∧Ja=p1++p2∧Jo=b1++b2∧Held P w IV k a.1 v p1 b1∧bR P w IV ks a.2 vs' p2 b2):bR P w IV (k::ks) a vs Ja Jo:=by
 cases k with
 | cl f n=>cases hk
 | _=>exact h
def bF(P:Program)(w:World)(IV:Nat→Prop):(ks:List Kd)→TL F ks→List Value→List Pl→List Pl→Prop
 | [],_,vs,Jo,Ja=>vs = []∧Jo = []∧Ja = []
 | [.box t ow],x,vs,Jo,Ja=>∃bx:Nat×Nat×Nat,vs = []∧Jo = [some (RI bx)]∧Ph w IV t (oo ow) x bx.1 Ja
 | .box t ow::l::ks,a,vs,Jo,Ja=>∃(bx:Nat×Nat×Nat)(Np:List Pl)(p1 p2:List Pl),Jo=some (RI bx)::Np∧Ja=p1++p2∧Ph w IV t (oo ow) a.1 bx.1 p1∧bF P w IV (l::ks) a.2 vs Np p2
 | [.row t _],x,vs,Jo,Ja=>∃pl,vs = []∧Jo = [pl]∧LM w IV t x pl∧Ja = []
 | .row t _::l::ks,a,vs,Jo,Ja=>∃(pl:Pl)(Np:List Pl),Jo=pl::Np∧LM w IV t a.1 pl∧bF P w IV (l::ks) a.2 vs Np Ja
 | [k],x,vs,Jo,Ja=>∃v,vs = [v]∧Jo = []∧Held P w IV k x v Ja []
 | k::l::ks,a,vs,Jo,Ja=>∃v vs' p1 p2,vs=v::vs'∧Ja=p1++p2∧Held P w IV k a.1 v p1 []∧bF P w IV (l::ks) a.2 vs' Jo p2
structure N8(w:World)(IV:Nat→Prop)(bs:List Nat):Prop where
 nodup:bs.Nodup
 IV:∀b∈bs,¬ IV b
 lt:∀b∈bs,b<w.heap.size
def Px:List Value→Value
 | [v]=>v
 | vs=>.tuple ⟨vs⟩
def outs(sp:Spec F):List Kd:=sp.rs++sp.ks.filter Kd.KO
def K9(P:Program)(f:FuncId)(sp:Spec F):Prop:=
 ba P f∧∀(a:HL F sp.ks)(r:TL F (outs sp)),sp.D a=some r→∀(IV:Nat→Prop)(w:World)(vs:List Value)(Ja:List Pl) (Jo:List Pl),
  bR P w IV sp.ks a vs Ja Jo→N8 w IV (Ht Ja)→(∀b,IV b→b<w.heap.size)→
  Calls P f ⟨vs⟩ w λe w'=>∃(MU:List Value)(Jg:Nat→Prop)(J9:List Pl),e = .returned (Px MU)∧
   w'.os=w.os∧w'.tape=w.tape∧w'.output=w.output∧w.drawn≤w'.drawn∧w.heap.size≤w'.heap.size∧(∀b,b<w.heap.size→b∉Ht Ja→w'.heap[b]? = w.heap[b]?)∧
   (∀b,IV b→Jg b)∧(∀b,Jg b→IV b∨b∈Ht Ja∨w.heap.size≤b)∧(∀b,Jg b→b<w'.heap.size)∧
   bF P w' Jg (outs sp) r MU Jo J9∧N8 w' Jg (Ht Jo++Ht J9)∧∀b∈Ht Jo++Ht J9,b∈Ht Ja∨w.heap.size≤b
def J7(g:G):Option Nat→Pl
 | some i=>(g.ids i).getD none
 | none=>none
theorem J8.le{w:World}{IV Jg:Nat→Prop}(hi:∀b,IV b→Jg b){ow:List Nat}:∀{ds:List (ND F)} {k:Nat} {vs:List Value} {Ja:List Pl},J8 w IV ow k ds vs Ja→J8 w Jg ow k ds vs Ja
 | [],k,vs,Ja,h=>by cases vs<;>simp_all [J8]
 | d::ds,k,vs,Ja,h=>by
  cases vs with
  | nil=>simp[J8]at h
  | cons v vs=>
   simp only[J8]at h ⊢;split
   ·rename_i hk;rw[if_pos hk]at h;split at h
    ·obtain⟨pl,rest,h1,h2,h3,h4⟩:=h;exact⟨pl,rest,h1,h2.Ml hi (λ_ _=>rfl) (λ_ _ _=>rfl),h3,h4.le hi⟩
    ·exact h.elim
   ·rename_i hk;rw[if_neg hk]at h;split
    ·rename_i hk2;rw[if_pos hk2]at h;split at h
     ·obtain⟨pl,rest,h1,h2,h3,h4⟩:=h;exact⟨pl,rest,h1,h2.Ml hi (λ_ _=>rfl) (λ_ _ _ _ _=>rfl),h3,h4.le hi⟩
     ·exact h.elim
    ·rename_i hk2;rw[if_neg hk2]at h;exact⟨h.1.mono hi (λ_ _=>rfl),h.2.le hi⟩
section
variable{own:Ow}{g:G}{w:World}{m mm:Nat→Option (Jw F)}
theorem AC(hm:Je own g w m){id:Nat}{t:Ty}{l:List (ET F t)}(h:m id=some (.row t l)):bD w g.IV t l (J7 g (some id)):=by
 rcases hm.ok id _ h with⟨h1,h2⟩ | ⟨b,cap,cur,e,k1,k2,k3,k4,k5,k6⟩
 ·simp[J7,h1,bD,h2]
 ·have:J7 g (some id)=some (b,cap,l.length,[]):=by simp[J7,k1]
  rw[this];exact⟨rfl,k3,k4,cur,e,k2,k5,k6⟩
theorem pX(hm:Je own g w m){id:Nat}{t:Ty}{l:List (ET F t)}(h:m id=some (.mp t l)):∃b,J7 g (some id)=some (b,0,0,[])∧g.ids id=some (some (b,0,0,[]))∧MapAt w g.IV t l b:=by
 obtain⟨b,h1,h2⟩:=hm.ok id _ h
 exact⟨b,by simp[J7,h1],h1,h2⟩
theorem pQ{id:Nat}{v:Value}(h:Jz (F:=F) g w (.Oa id) v):∃b c,g.ids id=some (some (b,c))∧v = .map (some b):=by
 cases h with | Oa h=>exact⟨_,_,h,rfl⟩
theorem zW(hm:Je own g w m)(hle:M6 mm m){x:Ko F}{d:ND F}{o:Option Nat}(h:sn mm x=some (d,o)){d':ND F}(hd:Rl d d')(hnn:d'≠.nl){v:Value}(hv:Jz g w x v) :
  ∃t l,d' = .sl t l∧LM w g.IV t l (J7 g o)∧Pg t (J7 g o) v:=by
 unfold sn at h;split at h
 ·rename_i id;split at h
  ·rename_i t l hrow
   cases ht:t.KS with
   | true=>rw[ht]at h;cases h
   | false=>
    rw[ht]at h;cases h
    cases hd with
    | refl=>
     refine⟨t,l,rfl,by rw[dB ht];exact AC hm (hle _ _ hrow),?_⟩
     rw[gf ht];rcases a_ hv with⟨hi,p,rfl⟩ | ⟨b,c,n,hi,h1,h2,rfl⟩
     ·simp[J7,hi,Lf]
     ·simp[J7,hi,Lf]
  ·cases h
 ·rename_i id;split at h
  ·rename_i t l hrow
   cases ht:t.KS with
   | false=>rw[ht]at h;cases h
   | true=>
    rw[ht]at h;cases h
    cases hd with
    | refl=>
     obtain⟨b,k1,k2,k3⟩:=pX hm (hle _ _ hrow);obtain⟨b',c',k4,rfl⟩:=pQ hv;rw[k2]at k4;cases k4;refine⟨t,l,rfl,?_,?_⟩
     ·unfold LM;rw[if_pos ht];exact⟨b,k1,k3⟩
     ·unfold Pg;rw[if_pos ht];exact⟨b,k1,rfl⟩
  ·cases h
 ·cases h
  cases hd with
  | refl=>exact absurd rfl hnn
  | nl t ht=>
   obtain⟨p,rfl⟩:=mg (P:=default) (.c hv)
   exact⟨t,[],rfl,by rw[dB ht];rfl,by rw[gf ht];exact⟨p,rfl⟩⟩
 ·cases h
theorem yi(hm:Je own g w m)(hle:M6 mm m){x:Ko F}{d:ND F}{o:Option Nat}(h:qj mm x=some (d,o)){d':ND F}(hd:Rl d d')(hnn:d'≠.nl){v:Value}(hv:Jz g w x v) :
  ∃t l,d' = .sl t l∧M8 w g.IV t l (J7 g o)∧Lf (J7 g o) v:=by
 unfold qj at h;split at h
 ·rename_i id;have hv:=ub hm hle hv;simp only[SX]at hv;unfold wh at h;split at h
  ·rename_i t l hrow;cases h
   cases hd with
   | refl=>
    obtain⟨pl,k1,k2,k3⟩:=qx hm (hle _ _ hrow) hv
    have e:J7 g (some (Rm mm id))=pl:=by simp[J7,k1]
    rw[e];exact⟨t,l,rfl,k2,k3⟩
  ·cases h
 ·cases h
  cases hd with
  | refl=>exact absurd rfl hnn
  | nl t _=>obtain⟨p,rfl⟩:=mg (P:=default) (.c hv);exact⟨t,[],rfl,rfl,p,rfl⟩
 ·cases h
theorem pC{ow:List Nat}{k:Nat}{x:Ko F}{r:List (Ko F)}{ds:List (ND F)}{os:List (Option Nat)}{fz:List Nat}(h:dG mm ow k (x::r)=some (ds,os,fz)) :
  (Jp k ow=true∧∃d o ds' os',sn mm x=some (d,o)∧dG mm ow (k+1) r=some (ds',os',fz)∧ds=d::ds'∧os=o::os')∨
  (Jp k ow=false∧Jp (k+1000) ow=true∧∃d o ds' os',qj mm x=some (d,o)∧dG mm ow (k+1) r=some (ds',os',fz)∧ds=d::ds'∧os=o::os')∨
  (Jp k ow=false∧Jp (k+1000) ow=false∧∃d i ds' UH,NT mm x=some (d,i)∧dG mm ow (k+1) r=some (ds',os,UH)∧ds=d::ds'∧fz=i++UH):=by
 simp only[dG]at h;split at h
 ·rename_i hk;split at h
  ·cases h
  ·rename_i d o hd;split at h
   ·cases h
   ·rename_i ds' os' UH hr;cases h;exact .inl ⟨hk,d,o,ds',os',hd,hr,rfl,rfl⟩
 ·rename_i hk;split at h
  ·rename_i hk2;split at h
   ·cases h
   ·rename_i d o hd;split at h
    ·cases h
    ·rename_i ds' os' UH hr;cases h
     exact .inr (.inl ⟨by simpa using hk,hk2,d,o,ds',os',hd,hr,rfl,rfl⟩)
  ·rename_i hk2;split at h
   ·cases h
   ·rename_i d i hd;split at h
    ·cases h
    ·rename_i ds' os' UH hr;cases h
     exact .inr (.inr ⟨by simpa using hk,by simpa using hk2,d,i,ds',UH,hd,hr,rfl,rfl⟩)
theorem me{ow:List Nat}:∀{cs:List (Ko F)} {k:Nat} {ds:List (ND F)} {os:List (Option Nat)} {fz:List Nat},dG mm ow k cs=some (ds,os,fz)→∀id∈fz,Wx mm id
 | [],k,ds,os,fz,h=>by simp only[dG,KV]at h;cases h;simp
 | x::r,k,ds,os,fz,h=>by
  rcases pC h with⟨_,d,o,ds',os',h1,h2,rfl,rfl⟩ | ⟨_,_,d,o,ds',os',h1,h2,rfl,rfl⟩ | ⟨_,_,d,i,ds',UH,h1,h2,rfl,rfl⟩
  ·exact me h2
  ·exact me h2
  ·intro id hid;rcases Mi.1 hid with hid | hid
   ·exact wO h1 id hid
   ·exact me h2 id hid
theorem ml{ow:List Nat}:∀{cs:List (Ko F)} {k:Nat} {ds:List (ND F)} {os:List (Option Nat)} {fz:List Nat},dG mm ow k cs=some (ds,os,fz)→∀id,some id∈os→∃B,mm id=some B∧B.owned=true
 | [],k,ds,os,fz,h=>by simp only[dG,KV]at h;cases h;simp
 | x::r,k,ds,os,fz,h=>by
  rcases pC h with⟨_,d,o,ds',os',h1,h2,rfl,rfl⟩ | ⟨_,_,d,o,ds',os',h1,h2,rfl,rfl⟩ | ⟨_,_,d,i,ds',UH,h1,h2,rfl,rfl⟩
  ·intro id hid;rcases Li.1 hid with rfl | hid
   ·unfold sn at h1;split at h1
    ·split at h1
     ·rename_i t l hrow
      cases ht:t.KS with
      | true=>rw[ht]at h1;cases h1
      | false=>rw[ht]at h1;cases h1;exact⟨_,hrow,rfl⟩
     ·cases h1
    ·split at h1
     ·rename_i t l hrow
      cases ht:t.KS with
      | false=>rw[ht]at h1;cases h1
      | true=>rw[ht]at h1;cases h1;exact⟨_,hrow,rfl⟩
     ·cases h1
    ·cases h1
    ·cases h1
   ·exact ml h2 id hid
  ·intro id hid;rcases Li.1 hid with rfl | hid
   ·unfold qj at h1;split at h1
    ·unfold wh at h1;split at h1
     ·rename_i hrow;cases h1;exact⟨_,hrow,rfl⟩
     ·cases h1
    ·cases h1
    ·cases h1
   ·exact ml h2 id hid
  ·exact ml h2
theorem gM(hm:Je own g w m)(hle:M6 mm m){ow:List Nat}{Jg:Nat→Prop}(hi:∀b,g.IV b→Jg b):∀{cs:List (Ko F)} {k:Nat} {ds ds':List (ND F)} {os:List (Option Nat)} {fz:List Nat},dG mm ow k cs=some (ds,os,fz)→OJ ds ds'→(∀d∈ds',d≠.nl)→
  (∀id∈fz,∀b,g.blk id b→Jg b)→∀{vs:List Value},vs.length=cs.length→(∀(k:Nat)(x:Ko F)(v:Value),cs[k]? = some x→vs[k]? = some v→Jz g w x v)→J8 w Jg ow k ds' vs (os.map (J7 g))
 | [],k,ds,ds',os,fz,h,hl,ho,hf,vs,hv,hr=>by simp only[dG,KV]at h;cases h;have h1:ds' = []:=O1 hl.1.symm;have h2:vs = []:=O1 hv;subst h1 h2;rfl
 | x::r,k,ds,ds',os,fz,h,hl,ho,hf,vs,hv,hr=>by
  match vs,hv with
  | v::vs,hv=>
   have hx:=hr 0 x v rfl rfl;have hr':∀(k:Nat)(x:Ko F)(v:Value),r[k]? = some x→vs[k]? = some v→Jz g w x v:=λk x v a b=>hr (k+1) x v a b;rcases pC h with⟨hk,d,o,ds0,os',h1,h2,rfl,rfl⟩ | ⟨hk,hk2,d,o,ds0,os',h1,h2,rfl,rfl⟩ | ⟨hk,hk2,d,i,ds0,UH,h1,h2,rfl,rfl⟩
   ·match ds',hl with
    | d'::ds',hl=>
     have hd:Rl d d':=hl.2 0 d d' rfl rfl
     have hl':OJ ds0 ds':=⟨by simpa using hl.1,λk a b h1 h2=>hl.2 (k+1) a b h1 h2⟩
     obtain⟨t,l,rfl,h3,h4⟩:=zW hm hle h1 hd (ho _ (by simp)) hx
     simp only[J8,hk,if_true,KZ]
     exact⟨_,_,rfl,h3.Ml hi (λ_ _=>rfl) (λ_ _ _=>rfl),h4,gM hm hle hi h2 hl' (λd hd=>ho d (by simp[hd])) hf (by simpa using hv) hr'⟩
    | [],hl=>exact absurd hl.1 (by simp)
   ·match ds',hl with
    | d'::ds',hl=>
     have hd:Rl d d':=hl.2 0 d d' rfl rfl
     have hl':OJ ds0 ds':=⟨by simpa using hl.1,λk a b h1 h2=>hl.2 (k+1) a b h1 h2⟩
     obtain⟨t,l,rfl,h3,h4⟩:=yi hm hle h1 hd (ho _ (by simp)) hx
     simp only[J8,hk,hk2,Nb,if_false,if_true,KZ]
     exact⟨_,_,rfl,h3.Ml hi (λ_ _=>rfl) (λ_ _ _ _ _=>rfl),h4,gM hm hle hi h2 hl' (λd hd=>ho d (by simp[hd])) hf (by simpa using hv) hr'⟩
    | [],hl=>exact absurd hl.1 (by simp)
   ·match ds',hl with
    | d'::ds',hl=>
     have hd:Rl d d':=hl.2 0 d d' rfl rfl
     have hl':OJ ds0 ds':=⟨by simpa using hl.1,λk a b h1 h2=>hl.2 (k+1) a b h1 h2⟩
     simp only[J8,hk,hk2,Nb,if_false]
     refine⟨?_,gM hm hle hi h2 hl' (λd hd=>ho d (by simp[hd])) (λid hid=>hf id (by simp[hid])) (by simpa using hv) hr'⟩
     exact(zd hm hle h1 (g1:=⟨g.ids,Jg,g.len⟩) ⟨λ_ _ h=>h,hi,λ_ _=>rfl,λ_ h=>h,λ_ _=>rfl⟩ (λid hid=>hf id (by simp[hid])) hx).Uh hd
    | [],hl=>exact absurd hl.1 (by simp)
end
end
set_option linter.unusedVariables false
set_option linter.unusedSimpArgs false
section
variable{F:Fam}{P:Program}{own:Ow}{g:G}{w:World}{m mm:Nat→Option (Jw F)}
structure O6(g:G)(ids:List Nat)(im:Nat→Prop):Prop where
 IV:∀b,g.IV b→im b
 fz:∀id∈ids,∀b,g.blk id b→im b
theorem O6.sub{fz UH:List Nat}{IV:Nat→Prop}(h:O6 g fz IV)(hs:∀id∈UH,id∈fz):O6 g UH IV:=⟨h.IV,λid hid=>h.fz id (hs id hid)⟩
theorem qM(hm:Je own g w m)(hle:M6 mm m){t:Ty}{ow:List Nat}{d:Dat F}{p:Pk (ET F t)}(h:R8 mm t ow d=some p){IV:Nat→Prop}(hi:O6 g p.fz IV){v:Value}(hr:Jr P g w d v) :
  Ky w IV t ow p.x v (p.os.map (J7 g))∧p.bx = []∧(∀id∈p.fz,Wx mm id)∧(∀id,some id∈p.os→∃B,mm id=some B∧B.owned=true):=by
 unfold R8 at h;split at h
 ·cases h
 ·rename_i cs hcs;split at h
  ·cases h
  ·rename_i ds os fz hds;split at h
   ·cases h
   ·rename_i x hx;cases h;refine⟨?_,rfl,me hds,λid hid=>?_⟩
    ·have O7:=bK F hx;have hnn:=pG hx;unfold yV at hcs;split at hcs
     ·rename_i y;split at hcs
      ·cases hcs
      ·rename_i hst;cases hcs;unfold Ky;rw[if_neg hst];refine gM hm hle hi.IV hds O7 hnn hi.fz rfl ?_;intro k c u h1 h2
       cases k with
       | zero=>simp only[M4,KV]at h1 h2;subst h1 h2;exact aV hr
       | succ k=>simp at h1
     ·rename_i cs';split at hcs
      ·rename_i hst;cases hcs;unfold Ky;rw[if_pos hst];obtain⟨vs,rfl,hl,hrr⟩:=lE hr;exact⟨vs,rfl,gM hm hle hi.IV hds O7 hnn hi.fz hl hrr⟩
      ·cases hcs
     ·cases hcs
    ·exact ml hds id hid
theorem kG(hm:Je own g w m)(hle:M6 mm m){t:Ty}{ow:List Nat}{d:Dat F}{p:Pk (ET F t)}(h:jC mm t ow d=some p){IV:Nat→Prop}(hi:O6 g p.fz IV){v:Value}(hr:Jr P g w d v) :
  ∃(id:Nat)(bx:Nat×Nat×Nat)(os:List (Option Nat)),p.os=some id::os∧p.bx = [id]∧d = .c (.ptr id 0)∧g.ids id=some (some (RI bx))∧v = .pointer (some ⟨bx.1,0,none⟩)∧Ph w IV t ow p.x bx.1 (os.map (J7 g))∧
   (∀id∈p.fz,Wx mm id)∧(∀id,some id∈p.os→∃B,mm id=some B∧B.owned=true):=by
 unfold jC at h;split at h
 ·rename_i id;split at h
  ·rename_i cs Mw;split at h
   ·cases h
   ·rename_i ds os fz hds;split at h
    ·cases h
    ·rename_i x hx;cases h;obtain⟨b,cn,hid,rfl⟩:=bo hr;obtain⟨b',RN,arr,e,k1,k2,k3,k4⟩:=hm.ok id _ (hle _ _ Mw);rw[k1]at hid;cases hid;refine⟨id,(b,RN),os,rfl,rfl,rfl,k1,rfl,⟨arr,e,k2,gM hm hle hi.IV hds (bK F hx) (pG hx) hi.fz k3 k4⟩,me hds,λid' K8=>?_⟩;rcases Li.1 K8 with h1 | h1
     ·cases h1;exact⟨_,Mw,rfl⟩
     ·exact ml hds id' h1
  ·cases h
 ·cases h
theorem fw{t:Ty}{l:List (ET F t)}:(Oy t l).owned=true:=by
 unfold Oy;cases t.KS<;>rfl
theorem tF(hm:Je own g w m)(hle:M6 mm m){t:Ty}{id:Nat}{p:Pk (List (ET F t))}(h:pO mm t id=some p) :
  p.os = [some id]∧p.bx = [id]∧p.fz = []∧LM w g.IV t p.x (J7 g (some id))∧∃l:List (ET F t),mm id=some (Oy t l):=by
 unfold pO at h;split at h
 ·rename_i t' l hrow;split at h
  ·rename_i e;subst e
   cases ht:t'.KS with
   | true=>rw[ht]at h;cases h
   | false=>
    rw[ht]at h;cases h
    exact⟨rfl,rfl,rfl,by rw[dB ht];exact AC hm (hle _ _ hrow),l,by unfold Oy;rw[ht];exact hrow⟩
  ·cases h
 ·rename_i t' l hrow;split at h
  ·rename_i e;subst e
   cases ht:t'.KS with
   | false=>rw[ht]at h;cases h
   | true=>
    rw[ht]at h;cases h;obtain⟨b,k1,k2,k3⟩:=pX hm (hle _ _ hrow)
    exact⟨rfl,rfl,rfl,by unfold LM;rw[if_pos ht];exact⟨b,k1,k3⟩,l,by unfold Oy;rw[ht];exact hrow⟩
  ·cases h
 ·cases h
theorem LM.le{IV Jg:Nat→Prop}(hi:∀b,IV b→Jg b){t:Ty}{l:List (ET F t)}{pl:Pl}(h:LM w IV t l pl):LM w Jg t l pl:=h.Ml hi (λ_ _=>rfl) (λ_ _ _=>rfl)
theorem bD.le{IV Jg:Nat→Prop}(hi:∀b,IV b→Jg b){t:Ty}{l:List (ET F t)}{pl:Pl}(h:bD w IV t l pl):bD w Jg t l pl:=h.Ml hi (λ_ _=>rfl) (λ_ _ _=>rfl)
theorem rG{t:Ty}{arr:Bool}{d:Dat F}{id:Nat}(h:vi t arr d=some id):d=Mt t arr id:=by
 unfold vi at h;split at h
 ·cases ht:t.KS with
  | true=>rw[ht]at h;cases h
  | false=>
   rw[ht]at h;simp only[cond_false]at h;split at h
   ·rename_i ha;cases h;subst ha;unfold Mt;rw[ht];rfl
   ·cases h
 ·cases ht:t.KS with
  | true=>rw[ht]at h;cases h
  | false=>
   rw[ht]at h;simp only[cond_false]at h;split at h
   ·cases h
   ·rename_i ha;cases h;unfold Mt;rw[ht];simp[ha]
 ·cases ht:t.KS with
  | false=>rw[ht]at h;cases h
  | true=>rw[ht]at h;cases h;unfold Mt;rw[ht];rfl
 ·cases h
theorem xh{t:Ty}{arr:Bool}{id:Nat}{v:Value}(hr:Jr (F:=F) P g w (Mt t arr id) v):(∃pl,g.ids id=some pl)∧(t.KS=false→Vl arr (J7 g (some id)) v)∧(t.KS=true→∃b c,g.ids id=some (some (b,c))∧v = .map (some b)):=by
 unfold Mt at hr
 cases ht:t.KS with
 | true=>
  rw[ht]at hr;obtain⟨b,c,hi,rfl⟩:=pQ (aV hr)
  exact⟨⟨_,hi⟩,λe=>(by cases e),λ_=>⟨b,c,hi,rfl⟩⟩
 | false=>
  rw[ht]at hr
  cases arr with
  | true=>
   obtain⟨b,c,hi,rfl⟩:=bo hr
   exact⟨⟨_,hi⟩,λ_=>⟨b,c,by simp[J7,hi],rfl⟩,λe=>(by cases e)⟩
  | false=>
   rcases a_ (aV hr)with⟨hi,p,rfl⟩ | ⟨b,c,n,hi,h1,h2,rfl⟩
   ·exact⟨⟨_,hi⟩,λ_=>by simp[Vl,J7,hi,Lf],λe=>(by cases e)⟩
   ·exact⟨⟨_,hi⟩,λ_=>by simp[Vl,J7,hi,Lf],λe=>(by cases e)⟩
theorem rM(hm:Je own g w m)(hle:M6 mm m){t:Ty}{arr:Bool}{d:Dat F}{p:Pk (List (ET F t))}(h:vZ mm t arr d=some p){IV:Nat→Prop}(hi:∀b,g.IV b→IV b){v:Value}(hr:Jr P g w d v) :
  ∃id pl,p.os = [some id]∧p.bx = [id]∧p.fz = []∧d=Mt t arr id∧g.ids id=some pl∧LM w IV t p.x pl∧Uw t arr pl v∧∃l:List (ET F t),mm id=some (Oy t l):=by
 unfold vZ at h;split at h
 ·rename_i id hn;have hd:=rG hn;subst hd;obtain⟨h1,h2,h3,h4,h5⟩:=tF hm hle h;obtain⟨⟨pl,k1⟩,k2,k3⟩:=xh hr
  have e:J7 g (some id)=pl:=by simp[J7,k1]
  rw[e]at h4 k2;refine⟨id,pl,h1,h2,h3,rfl,k1,h4.le hi,?_,h5⟩;unfold Uw
  cases ht:t.KS with
  | true=>rw[if_pos rfl];obtain⟨b,c,k4,rfl⟩:=k3 ht;unfold LM at h4;rw[if_pos ht]at h4;obtain⟨b',k5,_⟩:=h4;rw[k1,k5]at k4;cases k4;exact⟨_,k5,rfl⟩
  | false=>rw[if_neg (by simp)];exact k2 ht
 ·cases h
theorem yx{IV:Nat→Prop}{cs ds:List (ND F)}(hl:OJ cs ds){b o:Nat}(hb:IV b)(h:∀k d,cs[k]? = some d→∃x,w.cell? ⟨b,o+k,none⟩=some x∧Jm w IV d x) :
  Jz (F:=F) ⟨λ_=>none,IV,λ_=>False⟩ w (.pt ds 0) (.pointer (some ⟨b,o,none⟩)):=by
 have key:∀k d,ds[k]? = some d→∃x,w.cell? ⟨b,o+k,none⟩=some x∧Jm w IV d x:=by
  intro k d hk
  have hlt:k<cs.length:=by rw[hl.1];exact(IS.1 hk).1
  obtain⟨x,h1,h2⟩:=h k _ (IR hlt);exact⟨x,h1,h2.Uh (hl.2 k _ d (IR hlt) hk)⟩
 have:=Jz.pt (F:=F) (g:=⟨λ_=>none,IV,λ_=>False⟩) (w:=w) ds 0 b o (λk=>(w.cell? ⟨b,o+k,none⟩).getD undef) hb
  (λk d hk=>by obtain⟨x,h1,h2⟩:=key k d hk;rw[h1];rfl) (λk d hk=>by obtain⟨x,h1,h2⟩:=key k d hk;rw[h1];exact h2)
 exact this
theorem tI(hm:Je own g w m)(hle:M6 mm m){t:Ty}{d:Dat F}{p:Pk (ET F t)}(h:u9 mm t d=some p){IV:Nat→Prop}(hi:O6 g p.fz IV){v:Value}(hr:Jr P g w d v) :
  Jz (F:=F) ⟨λ_=>none,IV,λ_=>False⟩ w (.pt (Jc F t p.x) 0) v∧p.os = []∧p.bx = []∧NH mm p.fz:=by
 unfold u9 at h;split at h
 ·split at h
  ·rename_i cs x hx;cases h;obtain⟨b,o,f,hb,rfl,hc,hrr⟩:=pU hr
   exact⟨yx (bK F hx) (hi.IV b hb) (λk d hk=>⟨_,hc k d hk,(hrr k d hk).mono hi.IV (λ_ _=>rfl)⟩),rfl,rfl,λid hid=>by simp at hid⟩
  ·cases h
 ·rename_i id;split at h
  ·rename_i cs Mw;split at h
   ·cases h
   ·rename_i ds fz hds;split at h
    ·cases h
    ·rename_i x hx;cases h;obtain⟨b,cn,hid,rfl⟩:=bo hr;obtain⟨b',RN,arr,e,k1,k2,k3,k4⟩:=hm.ok id _ (hle _ _ Mw);rw[k1]at hid;cases hid
     refine⟨yx (bK F hx) (hi.fz id (by simp) b (G.Kn k1)) ?_,rfl,rfl,?_⟩
     ·intro k d hk
      have hlt:k<arr.length:=by rw[k3,← dR hds];exact(IS.1 hk).1
      refine⟨arr[k],by simp[World.cell?,k2,hlt],?_⟩
      exact fb hm hle hds (g1:=⟨g.ids,IV,g.len⟩) ⟨λ_ _ h=>h,hi.IV,λ_ _=>rfl,λ_ h=>h,λ_ _=>rfl⟩ (λid' K8 b' hb'=>hi.fz id' (by simp[K8]) b' hb') arr k4 k d _ hk (IR hlt)
     ·intro id' K8;rcases Li.1 K8 with rfl | K8
      ·exact .inr (.inl ⟨cs,ds,fz,Mw,hds,λx hx=>by simp[hx]⟩)
      ·exact .inl (kx hds id' K8)
  ·rename_i cs Mw;split at h
   ·rename_i x hx;cases h;obtain⟨b,cn,hid,rfl⟩:=bo hr;obtain⟨b',RN,k1,k2,k3⟩:=hm.ok id _ (hle _ _ Mw);rw[k1]at hid;cases hid
    refine⟨yx (bK F hx) (hi.IV b k2) ?_,rfl,rfl,λid hid=>by simp at hid⟩
    intro k d hk;obtain⟨y,q1,q2⟩:=k3 k d hk
    exact⟨y,by rw[LY];exact q1,q2.mono hi.IV (λ_ _=>rfl)⟩
   ·cases h
  ·cases h
 ·cases h
theorem AN{IV:Nat→Prop}{cs ds:List (ND F)}(hl:OJ cs ds){b o b2 o2:Nat}(hb:IV b)(hv:w.cell? ⟨b,o,none⟩=some (.pointer (some ⟨b2,o2,none⟩)))(hb2:IV b2)(h:∀k d,cs[k]? = some d→∃x,w.cell? ⟨b2,o2+k,none⟩=some x∧Jm w IV d x) :
  Jz (F:=F) ⟨λ_=>none,IV,λ_=>False⟩ w (.PS ds) (.pointer (some ⟨b,o,none⟩)):=by
 have key:∀k d,ds[k]? = some d→∃x,w.cell? ⟨b2,o2+k,none⟩=some x∧Jm w IV d x:=by
  intro k d hk
  have hlt:k<cs.length:=by rw[hl.1];exact(IS.1 hk).1
  obtain⟨x,h1,h2⟩:=h k _ (IR hlt);exact⟨x,h1,h2.Uh (hl.2 k _ d (IR hlt) hk)⟩
 exact Jz.PS (F:=F) (g:=⟨λ_=>none,IV,λ_=>False⟩) (w:=w) ds b o b2 o2 (λk=>(w.cell? ⟨b2,o2+k,none⟩).getD undef) hb hv hb2
  (λk d hk=>by obtain⟨x,h1,h2⟩:=key k d hk;rw[h1];rfl) (λk d hk=>by obtain⟨x,h1,h2⟩:=key k d hk;rw[h1];exact h2)
theorem tU(hm:Je own g w m)(hle:M6 mm m){k:Nat}{t:Ty}{d:Dat F}{p:Pk (ET F t)}(h:vF mm k t d=some p){IV:Nat→Prop}(hi:O6 g p.fz IV){v:Value}(hr:Jr P g w d v) :
  PkV w IV k (Jc F t p.x) v∧p.os = []∧p.bx = []∧NH mm p.fz:=by
 unfold vF at h;split at h
 ·rename_i id;split at h
  ·rename_i id2 OD;split at h
   ·rename_i cs Mw;split at h
    ·rename_i d0 hd0;split at h
     ·rename_i x hx;cases h;obtain⟨b,cn,hid,rfl⟩:=bo hr;obtain⟨b',RN,Vk,e1,k1,k2,k3,k4⟩:=hm.ok id _ (hle _ _ OD);rw[k1]at hid;cases hid
      match Vk,k3,k2,k4 with
      | [v1],k3,k2,k4=>
       have hv1:=k4 0 (.ptr id2 0) v1 rfl rfl;obtain⟨b2,cn2,Rt,rfl⟩:=bo (P:=P) (.c hv1);obtain⟨b3,cn3,arr,e,q1,q2,q3,q4⟩:=hm.ok id2 _ (hle _ _ Mw);rw[q1]at Rt;cases Rt
       have hlt:k<arr.length:=by rw[q3];exact(IS.1 hd0).1
       have hy:=bX (q4 k (.im d0) _ hd0 (IR hlt));have hl:=bK F hx
       refine⟨⟨_,_,arr[k],rfl,hi.fz id (by simp) _ (G.Kn k1),hi.fz id2 (by simp) _ (G.Kn q1),by simp[World.cell?,k2],by simp[World.cell?,q2,hlt],?_⟩,rfl,rfl,?_⟩
       ·have hy2:Jm w IV d0 arr[k]:=hy.mono hi.IV (λ_ _=>rfl)
        match he:Jc F t x,hl with
        | [d1],hl=>exact .one (hy2.Uh (hl.2 0 d0 d1 rfl rfl))
        | [],hl=>simp[OJ]at hl
        | _::_::_,hl=>simp[OJ]at hl
       ·intro id' K8;simp only[Li,Zv,or_false]at K8;rcases K8 with rfl | rfl
        ·exact .inr (.inr ⟨_,OD,rfl⟩)
        ·exact .inr (.inr ⟨_,Mw,rfl⟩)
      | [],k3,_,_=>simp at k3
      | _::_::_,k3,_,_=>simp at k3
     ·cases h
    ·cases h
   ·cases h
  ·cases h
 ·cases h
theorem rC(hm:Je own g w m)(hle:M6 mm m){t:Ty}{d:Dat F}{p:Pk (ET F t)}(h:sF mm t d=some p){IV:Nat→Prop}(hi:O6 g p.fz IV){v:Value}(hr:Jr P g w d v) :
  Jz (F:=F) ⟨λ_=>none,IV,λ_=>False⟩ w (.PS (Jc F t p.x)) v∧p.os = []∧p.bx = []∧NH mm p.fz:=by
 unfold sF at h;split at h
 ·rename_i id;split at h
  ·rename_i id2 OD;split at h
   ·rename_i cs Mw;split at h
    ·cases h
    ·rename_i ds fz hds;split at h
     ·cases h
     ·rename_i x hx;cases h;obtain⟨b,cn,hid,rfl⟩:=bo hr;obtain⟨b',RN,Vk,e1,k1,k2,k3,k4⟩:=hm.ok id _ (hle _ _ OD);rw[k1]at hid;cases hid
      match Vk,k3,k2,k4 with
      | [v1],k3,k2,k4=>
       have hv1:=k4 0 (.ptr id2 0) v1 rfl rfl;obtain⟨b2,cn2,Rt,rfl⟩:=bo (P:=P) (.c hv1);obtain⟨b3,cn3,arr,e,q1,q2,q3,q4⟩:=hm.ok id2 _ (hle _ _ Mw);rw[q1]at Rt;cases Rt
       refine⟨AN (o:=0) (o2:=0) (bK F hx) (hi.fz id (by simp) _ (G.Kn k1)) (by simp[World.cell?,k2]) (hi.fz id2 (by simp) _ (G.Kn q1)) ?_,rfl,rfl,?_⟩
       ·intro k d hk
        have hlt:k<arr.length:=by rw[q3,← dR hds];exact(IS.1 hk).1
        refine⟨arr[k],by simp[World.cell?,q2,hlt],?_⟩
        exact fb hm hle hds (g1:=⟨g.ids,IV,g.len⟩) ⟨λ_ _ h=>h,hi.IV,λ_ _=>rfl,λ_ h=>h,λ_ _=>rfl⟩ (λid' K8 b' hb'=>hi.fz id' (by simp[K8]) b' hb') arr q4 k d _ hk (IR hlt)
       ·intro id' K8;rcases Li.1 K8 with rfl | K8
        ·exact .inr (.inr ⟨_,OD,rfl⟩)
        ·rcases Li.1 K8 with rfl | K8
         ·exact .inr (.inl ⟨cs,ds,fz,Mw,hds,λx hx=>by simp[hx]⟩)
         ·exact .inl (kx hds id' K8)
      | [],k3,_,_=>simp at k3
      | _::_::_,k3,_,_=>simp at k3
   ·cases h
  ·rename_i cs OD;split at h
   ·cases h
   ·rename_i x hx;cases h;obtain⟨b,cn,hid,rfl⟩:=bo hr;obtain⟨b',RN,Vk,e1,k1,k2,k3,k4⟩:=hm.ok id _ (hle _ _ OD);rw[k1]at hid;cases hid
    match Vk,k3,k2,k4 with
    | [v1],k3,k2,k4=>
     have hv1:=k4 0 (.pt cs 0) v1 rfl rfl;obtain⟨b2,o2,f,hb2,rfl,hc,hrr⟩:=pU (P:=P) (.c hv1)
     refine⟨AN (o:=0) (bK F hx) (hi.fz id (by simp) _ (G.Kn k1)) (by simp[World.cell?,k2]) (hi.IV b2 hb2) (λk d hk=>⟨_,hc k d hk,(hrr k d hk).mono hi.IV (λ_ _=>rfl)⟩),rfl,rfl,?_⟩
     intro id' K8;rw[IU]at K8;subst K8;exact .inr (.inr ⟨_,OD,rfl⟩)
    | [],k3,_,_=>simp at k3
    | _::_::_,k3,_,_=>simp at k3
  ·cases h
 ·cases h
theorem J8.lift{w w':World}{IV Jg:Nat→Prop}(hi:∀b,IV b→Jg b∧w'.heap[b]? = w.heap[b]?):∀{ds:List (ND F)} {k:Nat} {vs:List Value},J8 w IV [] k ds vs []→J8 w' Jg [] k ds vs []
 | [],k,vs,h=>by cases vs<;>simp_all [J8]
 | d::ds,k,vs,h=>by
  cases vs with
  | nil=>simp[J8]at h
  | cons v vs=>simp only[J8,Jp,Nb,if_false]at h ⊢;exact⟨h.1.mono (λb hb=>(hi b hb).1) (λb hb=>(hi b hb).2),h.2.lift hi⟩
theorem Ky.lift{w w':World}{IV Jg:Nat→Prop}(hi:∀b,IV b→Jg b∧w'.heap[b]? = w.heap[b]?){t:Ty}{x:ET F t}{v:Value}(h:Ky w IV t [] x v []):Ky w' Jg t [] x v []:=by
 unfold Ky at h ⊢;split
 ·rename_i hs;rw[if_pos hs]at h;obtain⟨vs,h1,h2⟩:=h;exact⟨vs,h1,h2.lift hi⟩
 ·rename_i hs;rw[if_neg hs]at h;exact h.lift hi
theorem J8.Lv{IV:Nat→Prop}:∀{ds:List (ND F)} {k:Nat} {vs:List Value} {Ja:List Pl},J8 w IV [] k ds vs Ja→Ja = []
 | [],k,vs,Ja,h=>by cases vs<;>simp_all [J8]
 | d::ds,k,vs,Ja,h=>by
  cases vs with
  | nil=>simp[J8]at h
  | cons v vs=>simp only[J8,Jp,Nb,if_false]at h;exact h.2.Lv
theorem Ky.Lv{IV:Nat→Prop}{t:Ty}{x:ET F t}{v:Value}{Ja:List Pl}(h:Ky w IV t [] x v Ja):Ja = []:=by
 unfold Ky at h;split at h
 ·obtain⟨vs,_,h2⟩:=h;exact h2.Lv
 ·exact h.Lv
theorem uG{IV:Nat→Prop}:∀{ds:List (ND F)} {k:Nat} {vs:List Value},vs.length=ds.length→(∀(k:Nat)(d:ND F)(x:Value),ds[k]? = some d→vs[k]? = some x→Jm w IV d x)→J8 w IV [] k ds vs []
 | [],k,vs,hl,_=>by have:vs = []:=O1 hl;subst this;rfl
 | d::ds,k,vs,hl,hr=>by
  match vs,hl with
  | v::vs,hl=>
   simp only[J8,Jp,Nb,if_false]
   exact⟨hr 0 d v rfl rfl,uG (by simpa using hl) (λk d x a b=>hr (k+1) d x a b)⟩
theorem xM{IV:Nat→Prop}{t:Ty}{x:ET F t}{v:Value}(h:L8 w IV (Jc F t x,t.K4) v):Ky w IV t [] x v []:=by
 unfold Ky
 cases hs:t.K4 with
 | true=>
  rw[if_pos rfl];rw[hs]at h;generalize hc:Jc F t x=cs at h ⊢
  cases h with
  | agg hl hr=>exact⟨_,rfl,uG hl hr⟩
 | false=>
  rw[if_neg (by simp)]
  rw[hs]at h;generalize hc:Jc F t x=cs at h ⊢
  cases h with
  | one h=>
   refine uG rfl ?_;intro k d y h1 h2
   cases k with
   | zero=>simp only[M4,KV]at h1 h2;subst h1 h2;exact h
   | succ k=>simp at h1
theorem uw{IV:Nat→Prop}:∀{ds:List (ND F)} {k:Nat} {vs:List Value},J8 w IV [] k ds vs []→vs.length=ds.length∧(∀(k:Nat)(d:ND F)(x:Value),ds[k]? = some d→vs[k]? = some x→Jm w IV d x)
 | [],k,vs,h=>by cases vs<;>simp_all [J8]
 | d::ds,k,vs,h=>by
  cases vs with
  | nil=>simp[J8]at h
  | cons v vs=>
   simp only[J8,Jp,Nb,if_false]at h;obtain⟨h1,h2⟩:=uw h.2
   refine⟨by simp[h1],?_⟩
   intro j d' x a b
   cases j with
   | zero=>simp only[M4,KV]at a b;subst a b;exact h.1
   | succ j=>exact h2 j d' x a b
theorem oj{IV:Nat→Prop}{t:Ty}{x:ET F t}{v:Value}(h:Ky w IV t [] x v []):L8 w IV (Jc F t x,t.K4) v:=by
 unfold Ky at h
 cases hs:t.K4 with
 | true=>rw[hs]at h;obtain⟨vs,rfl,h2⟩:=h;obtain⟨h3,h4⟩:=uw h2;exact .agg h3 h4
 | false=>
  rw[hs]at h;simp only[Nb,if_false]at h;obtain⟨h3,h4⟩:=uw h
  have hl:∃d,Jc F t x = [d]:=by
   cases hc:Jc F t x with
   | nil=>rw[hc]at h3;simp at h3
   | cons d r=>rw[hc]at h3;simp at h3;exact⟨d,by rw[h3]⟩
  obtain⟨d,hd⟩:=hl;rw[hd]
  exact .one (h4 0 d v (by rw[hd];rfl) rfl)
theorem n_{t:Ty}(hf:cC F t=true)(x:ET F t):∀d∈Jc F t x,d.flat=true:=by
 cases t with
 | int k=>simp[Jc,NP.flat]
 | bool=>simp[Jc,NP.flat]
 | str=>simp[Jc,NP.flat]
 | slice t=>simp[cC]at hf
 | st n=>
  simp only[Jc];simp only[cC]at hf
  have gen:∀(ts:List Ty)(a:Jk F ts),(ts.all λt=>match t with | .slice _=>false | .st _=>false | _=>true)=true→∀d∈LJ F ts a,d.flat=true:=by
   intro ts
   induction ts with
   | nil=>intro a _ d hd;simp[LJ]at hd
   | cons t ts ih=>
    intro a h d hd;simp only[Tt,KQ]at h;rcases Li.1 hd with rfl | hd
    ·cases t<;>first | rfl | simp at h
    ·exact ih a.2 h.2 d hd
  exact gen _ _ hf
theorem L8.flat{w w':World}{IV Jg:Nat→Prop}{cs:List (ND F)}{b:Bool}(hf:∀d∈cs,d.flat=true){v:Value}(h:L8 w IV (cs,b) v):L8 w' Jg (cs,b) v:=by
 cases h with
 | one h=>exact .one (h.flat (hf _ (by simp)))
 | agg hl h=>exact .agg hl (λk c x a b=>(h k c x a b).flat (hf c (Rk a)))
end
set_option linter.unusedVariables false
set_option linter.unusedSimpArgs false
section
variable{F:Fam}{P:Program}{own:Ow}{g:G}{w:World}{m mm:Nat→Option (Jw F)}
theorem uI(hm:Je own g w m)(hle:M6 mm m){k:Kd}{d:Dat F}{p:Pk (k.El F)}(h:P7 mm k d=some p){IV:Nat→Prop}(hi:O6 g p.fz IV){v:Value}(hr:Jr P g w d v) :
  (∀(w':World)(Jg:Nat→Prop),(∀b,IV b→Jg b∧w'.heap[b]? = w.heap[b]?)→Held P w' Jg k p.x v [] [])∧NH mm p.fz:=by
 unfold P7 at h;split at h
 ·obtain⟨h1,h2,h3,_⟩:=qM hm hle h hi hr;have h4:=h1.Lv;rw[h4]at h1;exact⟨λw' Jg hw=>⟨h1.lift hw,rfl⟩,NH.MB h3⟩
 ·obtain⟨h1,h2,h3,h4⟩:=tI hm hle h hi hr;refine⟨λw' Jg hw=>⟨rfl,rfl,?_⟩,h4⟩;exact Jz.le (g:=⟨λ_=>none,IV,λ_=>False⟩) (g':=⟨λ_=>none,Jg,λ_=>False⟩) ⟨λ_ _ h=>h,λb hb=>(hw b hb).1,λb hb=>(hw b hb).2,λ_ h=>h,λ_ h=>h.elim⟩ h1
 ·obtain⟨h1,h2,h3,h4⟩:=rC hm hle h hi hr;refine⟨λw' Jg hw=>⟨rfl,rfl,?_⟩,h4⟩;exact Jz.le (g:=⟨λ_=>none,IV,λ_=>False⟩) (g':=⟨λ_=>none,Jg,λ_=>False⟩) ⟨λ_ _ h=>h,λb hb=>(hw b hb).1,λb hb=>(hw b hb).2,λ_ h=>h,λ_ h=>h.elim⟩ h1
 ·obtain⟨h1,h2,h3,h4⟩:=tU hm hle h hi hr;exact⟨λw' Jg hw=>⟨rfl,rfl,h1.lift hw⟩,h4⟩
 ·cases h
theorem NH.append{l r:List Nat}(h:NH mm l)(k:NH mm r):NH mm (l++r):=by
 intro id hid;rcases Mi.1 hid with hid | hid
 ·rcases h id hid with h | ⟨cs,ds,fz,h1,h2,h3⟩ | h
  ·exact .inl h
  ·exact .inr (.inl ⟨cs,ds,fz,h1,h2,λx hx=>by simp[h3 x hx]⟩)
  ·exact .inr (.inr h)
 ·rcases k id hid with h | ⟨cs,ds,fz,h1,h2,h3⟩ | h
  ·exact .inl h
  ·exact .inr (.inl ⟨cs,ds,fz,h1,h2,λx hx=>by simp[h3 x hx]⟩)
  ·exact .inr (.inr h)
theorem eh{vs:List Value}(h:Kl (F:=F) P g w [] vs):vs = []:=O1 h.1
theorem fk{d:Dat F}{ds:List (Dat F)}{vs:List Value}(h:Kl P g w (d::ds) vs):∃v vs',vs=v::vs'∧Jr P g w d v∧Kl P g w ds vs':=by
 match vs,h with
 | [],h=>exact absurd h.1 (by simp)
 | v::vs,h=>exact⟨v,vs,rfl,(aP.1 h).1,(aP.1 h).2⟩
theorem BQ{w:World}{IV:Nat→Prop}{d:List (ND F)×Bool}{ds:List (List (ND F)×Bool)}{vs:List Value}(h:Q_ w IV (d::ds) vs):∃v vs',vs=v::vs'∧L8 w IV d v∧Q_ w IV ds vs':=by
 match vs,h with
 | [],h=>exact absurd h.1 (by simp)
 | v::vs,h=>exact⟨v,vs,rfl,h.2 0 d v rfl rfl,by simpa using h.1,λk d x a b=>h.2 (k+1) d x a b⟩
theorem zw{mm:Nat→Option (Jw F)}{k:Kd}{d:Dat F}{p:Pk (k.El F)}(h:P7 mm k d=some p):k.PE=false:=by
 cases k with
 | cl f n=>simp[P7]at h
 | _=>rfl
theorem g_(hm:Je own g w m)(hle:M6 mm m):∀{kk:List Kd}{fs:List (Dat F)} {ks:List Ty} {cs:List (Dat F)} {q:Pk (Jk F ks→HL F kk)},Mf mm kk fs ks cs=some q→
  ∀{IV:Nat→Prop},O6 g q.fz IV→∀{vs us:List Value},Kl P g w fs vs→Kl P g w cs us→
  (∀(w':World)(Jg:Nat→Prop),(∀b,IV b→Jg b∧w'.heap[b]? = w.heap[b]?)→∀(a:Jk F ks)(vs':List Value),Q_ w' Jg (Ms F ks a) vs'→bR P w' Jg kk (q.x a) (vs++vs'++us) [] [])∧NH mm q.fz
 | [],fs,ks,cs,q,h,IV,hi,vs,us,hf,hc=>by
  cases fs with
  | cons d fs=>cases ks<;>cases cs<;>simp[Mf]at h
  | nil=>
   cases ks with
   | cons t ks=>cases cs<;>simp[Mf]at h
   | nil=>
    cases cs with
    | cons d cs=>simp[Mf]at h
    | nil=>
     simp only[Mf,KV]at h;subst h;have h1:=eh hf;have h2:=eh hc;subst h1 h2
     refine⟨λw' Jg hw a vs' ht=>?_,λid hid=>by simp at hid⟩
     have:vs' = []:=O1 ht.1;subst this;exact⟨rfl,rfl,rfl⟩
 | k::kk,d::fs,ks,cs,q,h,IV,hi,vs,us,hf,hc=>by
  simp only[Mf]at h;split at h
  ·cases h
  ·rename_i p hp;split at h
   ·cases h
   ·rename_i q' hq';cases h;obtain⟨v,UN,rfl,hr,hf'⟩:=fk hf
    obtain⟨h1,h2⟩:=uI hm hle hp (hi.sub (λid hid=>by simp[hid])) hr
    obtain⟨h3,h4⟩:=g_ hm hle hq' (hi.sub (λid hid=>by simp[hid])) hf' hc
    exact⟨λw' Jg hw a vs' ht=>rI (zw hp) ⟨v,_,[],[],[],[],rfl,rfl,rfl,h1 w' Jg hw,h3 w' Jg hw a vs' ht⟩,h2.append h4⟩
 | k::kk,[],t::ks,cs,q,h,IV,hi,vs,us,hf,hc=>by
  have hk:∃t',k = .v t' []:=by
   cases k with
   | v t' ow=>cases ow with
    | nil=>exact⟨t',rfl⟩
    | cons=>simp[Mf]at h
   | box=>simp[Mf]at h
   | rp=>simp[Mf]at h
   | fn=>simp[Mf]at h
   | row=>simp[Mf]at h
   | OU=>simp[Mf]at h
   | pk=>simp[Mf]at h
   | ln=>simp[Mf]at h
   | nb=>simp[Mf]at h
   | cl=>simp[Mf]at h
  obtain⟨t',rfl⟩:=hk;simp only[Mf]at h;split at h
  ·rename_i e;subst e;split at h
   ·cases h
   ·rename_i q' hq';cases h;have h1:=eh hf;subst h1
    obtain⟨h3,h4⟩:=g_ (vs:=[]) hm hle hq' hi ⟨rfl,by simp⟩ hc
    refine⟨λw' Jg hw a vs' ht=>?_,h4⟩;obtain⟨v,UN,rfl,hr,ht'⟩:=BQ ht;exact⟨v,_,[],[],[],[],rfl,rfl,rfl,⟨xM hr,rfl⟩,h3 w' Jg hw a.2 UN ht'⟩
  ·cases h
 | k::kk,[],[],cs,q,h,IV,hi,vs,us,hf,hc=>by
  cases cs with
  | nil=>simp[Mf]at h
  | cons d cs=>
   simp only[Mf]at h;split at h
   ·cases h
   ·rename_i p hp;split at h
    ·cases h
    ·rename_i q' hq';cases h;have h1:=eh hf;subst h1;obtain⟨v,us0,rfl,hr,hc'⟩:=fk hc
     obtain⟨h1,h2⟩:=uI hm hle hp (hi.sub (λid hid=>by simp[hid])) hr
     obtain⟨h3,h4⟩:=g_ (vs:=[]) hm hle hq' (hi.sub (λid hid=>by simp[hid])) ⟨rfl,by simp⟩ hc'
     refine⟨λw' Jg hw a vs' ht=>?_,h2.append h4⟩;have h0:vs' = []:=O1 ht.1;subst h0;exact rI (zw hp) ⟨v,us0,[],[],[],[],rfl,rfl,rfl,h1 w' Jg hw,h3 w' Jg hw a [] ht⟩
theorem wy{sp:Spec F}{r:Ty}{D:HL F sp.ks→Option (ET F r)}(h:cN sp r=some D){a:HL F sp.ks}{y:ET F r}(hd:D a=some y) :
  ∃r',sp.D a=some r'∧∀(w:World)(IV:Nat→Prop)(MU:List Value)(Jo:List Pl) (Ja:List Pl),bF P w IV (outs sp) r' MU Jo Ja→∃v,MU = [v]∧Jo = []∧Ky w IV r [] y v Ja:=by
 obtain⟨ks,rs,D0⟩:=sp
 match rs,D0,D,h,hd with
 | [.v t []],D0,D,h,hd=>
  simp only[cN]at h;simp only[outs]
  have key:∀(bl:List Kd)(D0:HL F ks→Option (TL F ([.v t []]++bl))) (D:HL F ks→Option (ET F r)),wu ks t r bl D0=some D→D a=some y→∃r',D0 a=some r'∧∀(w:World)(IV:Nat→Prop)(MU:List Value)(Jo:List Pl) (Ja:List Pl),bF P w IV ([.v t []]++bl) r' MU Jo Ja→∃v,MU = [v]∧Jo = []∧Ky w IV r [] y v Ja:=by
   intro bl
   cases bl with
   | nil=>
    intro D0 D h hd;simp only[wu]at h;split at h
    ·rename_i e;subst e;cases h;refine⟨y,hd,?_⟩;intro w IV MU Jo Ja hh;obtain⟨v,h1,h2,h3,_⟩:=hh;exact⟨v,h1,h2,h3⟩
    ·cases h
   | cons b bl=>intro D0 D h hd;cases h
  exact key _ D0 D h hd
 | [],D0,D,h,hd=>simp[cN]at h
 | .v t (_::_)::_,D0,D,h,hd=>simp[cN]at h
 | .box _ _::_,D0,D,h,hd=>simp[cN]at h
 | .rp _::_,D0,D,h,hd=>simp[cN]at h
 | .fn _ _::_,D0,D,h,hd=>simp[cN]at h
 | .row _ _::_,D0,D,h,hd=>simp[cN]at h
 | .OU _::_,D0,D,h,hd=>simp[cN]at h
 | .pk _ _::_,D0,D,h,hd=>simp[cN]at h
 | .ln _::_,D0,D,h,hd=>simp[cN]at h
 | .nb _ _::_,D0,D,h,hd=>simp[cN]at h
 | .v t []::_::_,D0,D,h,hd=>simp[cN]at h
end
set_option linter.unusedVariables false
set_option linter.unusedSimpArgs false
section
variable{F:Fam}{P:Program}{own:Ow}{g:G}{w:World}{m mm:Nat→Option (Jw F)}{Γ : Ctx F}
def Kr(P:Program)(Γ : Ctx F):Prop:=∀f sp,look Γ f=some sp→K9 P f sp
theorem Bs{f:FuncId}{sp:Spec F}(hf:K9 P f sp){ks:List Ty}{r:Ty}{D:HL F sp.ks→Option (ET F r)}(hD:cN sp r=some D)(hfl:cC F r=true){q:Jk F ks→HL F sp.ks}{bs us:List Value}(hbs:bs = []∨ks.length=1){IV:Nat→Prop}
  (hq:∀(w':World)(Jg:Nat→Prop),(∀b,IV b→Jg b∧w'.heap[b]? = w.heap[b]?)→∀(a:Jk F ks)(vs':List Value),Q_ w' Jg (Ms F ks a) vs'→bR P w' Jg sp.ks (q a) (bs++vs'++us) [] []) :
  PN P F w IV ks r (λa=>D (q a)) (.func (.func f) ⟨bs⟩ ⟨us⟩):=by
 refine⟨f,bs,us,rfl,hbs,hf.1,?_⟩;intro w' Jg hw hlt a x vs' hφ ht;obtain⟨r',hr',hout⟩:=wy (P:=P) hD hφ
 refine(hf.2 (q a) r' hr' Jg w' (bs++vs'++us) [] [] (hq w' Jg hw a vs' ht) ⟨by simp[Ht],by simp[Ht],by simp[Ht]⟩ hlt).mono ?_
 rintro e w'' ⟨MU,aiS,J9,rfl,h1,h2,h3,hdr,h4,h5,h6,h7,h8,h9,h10,h11⟩;obtain⟨v,rfl,_,hv⟩:=hout w'' aiS MU [] J9 h9;have hn:=hv.Lv;subst hn
 exact⟨v,rfl,⟨h1,h2,h3,h4,λb hb=>h5 b hb (by simp[Ht])⟩,(oj hv).flat (n_ hfl x),hdr⟩
theorem Aa(hΓ : Kr P Γ)(hm:Je own g w m)(hle:M6 mm m){ks:List Ty}{r:Ty}{d:Dat F}{p:Pk (Jk F ks→Option (ET F r))}(h:yR Γ mm ks r d=some p){IV:Nat→Prop}(hi:O6 g p.fz IV){v:Value}(hr:Jr P g w d v) :
  PN P F w IV ks r p.x v∧p.os = []∧p.bx = []∧NH mm p.fz:=by
 unfold yR at h;split at h
 ·rename_i ks' r' φ;split at h
  ·rename_i e;split at h
   ·rename_i e';subst e e';cases h
    cases hr with
    | fv hr=>exact⟨PN.le (g:=g) (g':=⟨g.ids,IV,g.len⟩) ⟨λ_ _ h=>h,hi.IV,λ_ _=>rfl,λ_ h=>h,λ_ _=>rfl⟩ hr,rfl,rfl,λid hid=>by simp at hid⟩
   ·cases h
  ·cases h
 ·rename_i f cs;split at h
  ·rename_i hfl;split at h
   ·cases h
   ·rename_i sp hsp;split at h
    ·rename_i D q hD hq;cases h
     cases hr with
     | NG h1 h2 hf hc=>
      obtain⟨k1,k2⟩:=g_ (P:=P) (vs:=[]) hm hle hq hi ⟨rfl,by simp⟩ ⟨h2,hc⟩
      have hv0:=O1 h1;subst hv0;exact⟨Bs (bs:=[]) (hΓ f sp hsp) hD hfl (.inl rfl) k1,rfl,rfl,k2⟩
    ·cases h
     cases hr with
     | NG h1 h2 hf hc=>
      have hv0:=O1 h1;subst hv0
      exact⟨⟨f,[],_,rfl,.inl rfl,(hΓ f sp hsp).1,λ_ _ _ _ _ _ _ h=>nomatch h⟩,rfl,rfl,λid hid=>by simp at hid⟩
  ·cases h
 ·rename_i f d0 fs cs;split at h
  ·rename_i hfl;rw[KQ]at hfl;split at h
   ·cases h
   ·rename_i sp hsp;split at h
    ·rename_i D q hD hq;cases h
     cases hr with
     | NG h1 h2 hf hc=>obtain⟨k1,k2⟩:=g_ (P:=P) hm hle hq hi ⟨h1,hf⟩ ⟨h2,hc⟩;exact⟨Bs (hΓ f sp hsp) hD hfl.1 (.inr (M5 hfl.2)) k1,rfl,rfl,k2⟩
    ·cases h
  ·cases h
 ·rename_i f;split at h
  ·rename_i hfl;split at h
   ·cases h
   ·rename_i sp hsp;split at h
    ·rename_i D q hD hq;cases h;have hv:=FN hr;subst hv
     obtain⟨k1,k2⟩:=g_ (P:=P) (vs:=[]) (us:=[]) hm hle hq hi ⟨rfl,by simp⟩ ⟨rfl,by simp⟩
     exact⟨Bs (bs:=[]) (hΓ f sp hsp) hD hfl (.inl rfl) k1,rfl,rfl,k2⟩
    ·cases h
  ·cases h
 ·cases h
def G.lf(g:G):G:=⟨g.ids,g.al,g.len⟩
theorem sS(g:G)(w:World):Le g w g.lf w:=⟨λ_ _ h=>h,λ_ h=>.inl h,λ_ _=>rfl,λ_ h=>h,λ_ _=>rfl⟩
theorem Je.lf(hm:Je own g w m):Je ⟨own.o,λb=>own.i b∨g.len b,own.nm⟩ g.lf w m:=
 ⟨λid B h=>(hm.ok id B h).le (sS g w) (λ_ _ _=>rfl),hm.Ou,λid B b h ho hb=>⟨(hm.own id B b h ho hb).1,λhi=>hi.elim (hm.own id B b h ho hb).2 λhl=>(hm.len b hl).1 (hm.own id B b h ho hb).1⟩,
  λb hb=>hb.elim (hm.IV b) λhl=>(hm.len b hl).2,λb hb=>hb.elim (λh=>(hm.io b h).imp .inl id) λh=>.inl (.inr h),hm.len⟩
theorem xp{c:Ko F}{v:Value}(h:Jz g w c v):Jz g.lf w (Vo c) v:=by
 cases c with
 | ln d=>cases h with | ln h=>exact .im h
 | _=>exact h.le (sS g w)
theorem yv{d:Dat F}{v:Value}(h:Jr P g w d v):Jr P g.lf w (RU d) v:=by
 cases h with
 | c h=>exact .c (xp h)
 | agg hl h=>
  refine .agg (by rw[Ox];exact hl) λk c x a b=>?_
  rw[MN]at a;obtain⟨c0,h0,rfl⟩:=RF.1 a;exact xp (h k c0 x h0 b)
 | MC hl h=>exact(Jr.MC hl h).le (sS g w)
 | NG h1 h2 h3 h4=>exact(Jr.NG h1 h2 h3 h4).le (sS g w)
 | fv h=>exact(Jr.fv h).le (sS g w)
 | gh h=>exact(Jr.gh h).le (sS g w)
theorem wM{ds:List (Dat F)}{vs:List Value}(h:Kl P g w ds vs):Kl P g.lf w (ds.map RU) vs:=by
 refine⟨by rw[Ox];exact h.1,λk d x a b=>?_⟩
 rw[MN]at a;obtain⟨c0,h0,rfl⟩:=RF.1 a;exact yv (h.2 k c0 x h0 b)
theorem qv(hΓ : Kr P Γ)(hm:Je own g w m)(hle:M6 mm m){k:Kd}{d:Dat F}{p:Pk (k.El F)}(h:Nl Γ mm k d=some p){IV:Nat→Prop}(hi:O6 g p.fz IV){v:Value}(hr:Jr P g w d v) :
  ∃Jo,Held P w IV k p.x v (p.os.map (J7 g)) Jo∧p.bx.map g.ids=Jo.map some∧NH mm p.fz∧(∀id,some id∈p.os→∃B,mm id=some B∧B.owned=true)∧(∀id∈p.bx,some id∈p.os):=by
 cases k with
 | v t ow=>
  obtain⟨h1,h2,h3,h4⟩:=qM hm hle h hi hr
  exact⟨[],⟨h1,rfl⟩,by rw[h2];rfl,NH.MB h3,h4,by rw[h2];simp⟩
 | box t ow=>
  obtain⟨id,bx,os,h1,h2,h3,h4,h5,h6,h7,h8⟩:=kG hm hle h hi hr
  refine⟨[some (RI bx)],⟨bx,os.map (J7 g),rfl,?_,h5,h6⟩,by rw[h2];simp[h4],NH.MB h7,h8,by rw[h2,h1];simp⟩
  rw[h1];simp[J7,h4]
 | rp t=>
  obtain⟨h1,h2,h3,h4⟩:=tI hm hle h hi hr
  exact⟨[],⟨by rw[h2];rfl,rfl,h1⟩,by rw[h3];rfl,h4,by rw[h2];simp,by rw[h3];simp⟩
 | fn ks r=>
  obtain⟨h1,h2,h3,h4⟩:=Aa hΓ hm hle h hi hr
  exact⟨[],⟨by rw[h2];rfl,rfl,h1⟩,by rw[h3];rfl,h4,by rw[h2];simp,by rw[h3];simp⟩
 | OU t=>
  obtain⟨h1,h2,h3,h4⟩:=rC hm hle h hi hr
  exact⟨[],⟨by rw[h2];rfl,rfl,h1⟩,by rw[h3];rfl,h4,by rw[h2];simp,by rw[h3];simp⟩
 | pk k t=>
  obtain⟨h1,h2,h3,h4⟩:=tU hm hle h hi hr
  exact⟨[],⟨by rw[h2];rfl,rfl,h1⟩,by rw[h3];rfl,h4,by rw[h2];simp,by rw[h3];simp⟩
 | ln t=>
  simp only[Nl,Cb]at h;split at h
  ·cases h
  ·rename_i p0 hp0;cases h;have hm2:=hm.lf;have hfz:O6 g.lf p0.fz (g.lf.Nj p0.fz).IV:=⟨λ_ h=>.inl h,λid hid b hb=>.inr ⟨id,hid,hb⟩⟩;obtain⟨h1,h2,h3,h4⟩:=qM hm2 hle hp0 hfz (yv hr);have hn:=h1.Lv;rw[hn]at h1
   exact⟨[],⟨rfl,rfl,_,(freeze hm2 hle (NH.MB h3)).IV,h1⟩,rfl,λid hid=>by simp at hid,by simp,by simp⟩
 | nb t ow=>
  simp only[Nl,Cl]at h;split at h
  ·rename_i p0 hp0;cases h;obtain⟨id,bx,os,h1,h2,h3,h4,h5,h6,h7,h8⟩:=kG hm hle hp0 hi hr
   refine⟨[],⟨bx,os.map (J7 g),rfl,?_,h5,h6⟩,rfl,NH.MB h7,h8,by simp⟩
   dsimp only;rw[h1];simp[J7,h4]
  ·cases h
 | cl f n=>cases h
 | row t arr=>
  obtain⟨id,pl,h1,h2,h3,h4,h5,h6,h7,l,h8⟩:=rM hm hle h hi.IV hr
  refine⟨[pl],⟨pl,rfl,by rw[h1];simp[J7,h5],h6,h7⟩,by rw[h2];simp[h5],λid hid=>by rw[h3]at hid;simp at hid,?_,by rw[h2,h1];simp⟩
  intro id' K8;rw[h1]at K8;simp only[IU,KV]at K8;subst K8;exact⟨_,h8,fw⟩
theorem EY{g:G}{w:World}{t:Ty}{l:List (ET F t)}{arr:Bool}{pl:Pl}{c:Nat}{v:Value}(h:bD w g.IV t l pl)(hn:g.ids c=some pl)(hv:Vl arr pl v):Jr (F:=F) P g w (if arr then .c (.ptr c 0)else .c (.KP c)) v:=by
 cases arr with
 | true=>obtain⟨b,q,rfl,rfl⟩:=hv;exact .c (.ptr hn)
 | false=>
  refine .c ?_;have hv:Lf pl v:=hv
  cases pl with
  | none=>obtain⟨p,rfl⟩:=hv;exact .ML p hn
  | some q=>obtain⟨b,cap,n⟩:=q;obtain⟨rfl,h2,h3,_⟩:=h;cases hv;exact .KP hn h2 h3
theorem yh{g:G}{w:World}{t:Ty}{l:List (ET F t)}{arr:Bool}{pl:Pl}{c:Nat}{v:Value}(h:LM w g.IV t l pl)(hn:g.ids c=some pl)(hv:Uw t arr pl v):Jr (F:=F) P g w (Mt t arr c) v:=by
 unfold Uw at hv;unfold LM at h;unfold Mt
 cases ht:t.KS with
 | true=>rw[ht,if_pos rfl]at hv;obtain⟨b,rfl,rfl⟩:=hv;exact .c (.Oa hn)
 | false=>
  rw[ht,if_neg (by simp)]at hv h
  exact EY h hn hv
theorem CQ{f n:Nat}{ds ds':List (Dat F)}{vs:List Value}(h:yX f n ds=some ds')(hr:Kl P g w ds vs) :
  ∃us vs',vs = .func (.func f) ⟨[]⟩ ⟨us⟩::vs'∧us.length=n∧Kl P g w ds' (us++vs'):=by
 unfold yX at h;split at h
 ·rename_i f' cs ds0;split at h
  ·rename_i hc;cases h;simp only[KQ]at hc;obtain⟨v,vs',rfl,h1,h2⟩:=fk hr;have hf:=M5 hc.1;have hl:=M5 hc.2;subst hf
   cases h1 with
   | NG q1 q2 q3 q4=>
    rename_i UN us;have e0:UN = []:=O1 q1;subst e0
    refine⟨us,vs',rfl,by omega,by rw[IT,IT,q2,h2.1],?_⟩
    intro k d x hd hx;rw[List.getElem?_append]at hd hx;split at hd
    ·rename_i hlt
     rw[if_pos (by omega)]at hx
     exact q4 k d x hd hx
    ·rename_i hlt
     rw[if_neg (by omega),q2]at hx
     exact h2.2 _ d x hd hx
  ·cases h
 ·cases h
theorem zR{k:Kd}{ks:List Kd}{d:Dat F}{ds:List (Dat F)}(hk:k.PE=false):gJ Γ mm (k::ks) (d::ds)=match Nl Γ mm k d with
  | none=>none
  | some p=>match gJ Γ mm ks ds with
   | none=>none
   | some q=>some ⟨(p.x,q.x),p.os++q.os,p.fz++q.fz,p.bx++q.bx⟩:=by
 cases k with
 | cl f n=>cases hk
 | _=>rfl
theorem BI{k:Kd}{ks:List Kd}{a:HL F (k::ks)}{c:Nat}(hk:k.PE=false):K6 (k::ks) a c=((Mk k a.1 c).1::(K6 ks a.2 (Mk k a.1 c).2.2).1,(Mk k a.1 c).2.1++(K6 ks a.2 (Mk k a.1 c).2.2).2.1,(K6 ks a.2 (Mk k a.1 c).2.2).2.2):=by
 cases k with
 | cl f n=>cases hk
 | _=>rfl
theorem Ek{g:G}{w:World}{f n:Nat}{ds:List (Dat F)}{us vs:List Value}(hl:us.length=n)(h:Kl P g w ds (us++vs)) :
  Kl P g w (.NG (.func f) [] (ds.take n)::ds.drop n) (.func (.func f) ⟨[]⟩ ⟨us⟩::vs):=by
 have hlen:ds.length=us.length+vs.length:=by rw[← h.1,IT]
 refine aP.2 ⟨.NG rfl (by rw[Ld];omega) (λk c x a b=>by simp at a) ?_,?_,?_⟩
 ·intro k c x a b;rw[MO]at a;split at a
  ·exact h.2 k c x a (by rw[Mv (IS.1 b).1];exact b)
  ·cases a
 ·rw[Na];omega
 ·intro k c x a b;rw[Ov]at a
  exact h.2 (n+k) c x a (by rw[Nc (by omega),← hl,WV];exact b)
theorem lY(hΓ : Kr P Γ)(hm:Je own g w m)(hle:M6 mm m):∀{ks:List Kd}{ds:List (Dat F)} {p:Pk (HL F ks)},gJ Γ mm ks ds=some p→∀{IV:Nat→Prop},O6 g p.fz IV→∀{vs:List Value},Kl P g w ds vs→
  ∃Jo,bR P w IV ks p.x vs (p.os.map (J7 g)) Jo∧p.bx.map g.ids=Jo.map some∧NH mm p.fz∧(∀id,some id∈p.os→∃B,mm id=some B∧B.owned=true)∧(∀id∈p.bx,some id∈p.os)
 | [],ds,p,h,IV,hi,vs,hr=>by
  cases ds with
  | cons d ds=>simp[gJ]at h
  | nil=>
   simp only[gJ,KV]at h;subst h;have:=eh hr;subst this
   exact⟨[],⟨rfl,rfl,rfl⟩,rfl,λid hid=>by simp at hid,by simp,by simp⟩
 | k::ks,ds,p,h,IV,hi,vs,hr=>by
  cases hk:k.PE with
  | true=>
   cases k with
   | cl f n=>
    simp only[gJ]at h;split at h
    ·cases h
    ·rename_i ds' hds;split at h
     ·cases h
     ·rename_i q hq;cases h;obtain⟨us,vs',rfl,hn,hr'⟩:=CQ hds hr;obtain⟨b2,l1,l2,l3,l4,l5⟩:=lY hΓ hm hle hq hi hr';exact⟨b2,⟨us,vs',rfl,hn,l1⟩,l2,l3,l4,l5⟩
   | _=>cases hk
  | false=>
  cases ds with
  | nil=>cases k<;>first | exact nomatch (show(none:Option (Pk (HL F (_::ks))))=some p from h) | cases hk
  | cons d ds=>
   rw[zR hk]at h;split at h
   ·cases h
   ·rename_i p1 hp1;split at h
    ·cases h
    ·rename_i p2 hp2;cases h;obtain⟨v,vs',rfl,h1,h2⟩:=fk hr
     obtain⟨b1,k1,k2,k3,k4,k5⟩:=qv hΓ hm hle hp1 (hi.sub (λid hid=>by simp[hid])) h1
     obtain⟨b2,l1,l2,l3,l4,l5⟩:=lY hΓ hm hle hp2 (hi.sub (λid hid=>by simp[hid])) h2
     refine⟨b1++b2,rI hk ⟨v,vs',p1.os.map (J7 g),p2.os.map (J7 g),b1,b2,rfl,by simp,rfl,k1,l1⟩,by simp[k2,l2],k3.append l3,?_,?_⟩
     ·intro id hid;rcases Mi.1 hid with hid | hid
      ·exact k4 id hid
      ·exact l4 id hid
     ·intro id hid;rcases Mi.1 hid with hid | hid
      ·exact WA _ (k5 id hid)
      ·exact WC _ (l5 id hid)
def Mx(g:G)(c:Nat)(Ja:List Pl):Prop:=∀j pl,Ja[j]? = some pl→g.ids (c+j)=some pl
theorem Mx.left{c:Nat}{p q:List Pl}(h:Mx g c (p++q)):Mx g c p:=λj pl hj=>h j pl (by rw[Mv (IS.1 hj).1];exact hj)
theorem Mx.right{c:Nat}{p q:List Pl}(h:Mx g c (p++q)):Mx g (c+p.length) q:=λj pl hj=>by
 have:=h (p.length+j) pl (by rw[Nc (by omega)];simpa using hj)
 rwa [Pq]
def Laid(g:G)(w:World)(c n:Nat)(bs:List (Nat×Jw F)):Prop:=∀p∈bs,∃j,p.1=c+j∧j<n∧p.2.owned=true∧KL g w p.1 p.2
theorem Laid.append{c n1 n2:Nat}{b1 b2:List (Nat×Jw F)}(h1:Laid g w c n1 b1)(h2:Laid g w (c+n1) n2 b2):Laid g w c (n1+n2) (b1++b2):=by
 intro p hp;rcases Mi.1 hp with hp | hp
 ·obtain⟨j,k1,k2,k3⟩:=h1 p hp;exact⟨j,k1,by omega,k3⟩
 ·obtain⟨j,k1,k2,k3⟩:=h2 p hp;exact⟨n1+j,by omega,by omega,k3⟩
theorem Bo{g:G}{w:World}{t:Ty}{l:List (ET F t)}{pl:Pl}{c:Nat}(h:bD w g.IV t l pl)(hn:g.ids c=some pl):KL g w c (.row t l):=by
 cases pl with
 | none=>exact .inl ⟨hn,h⟩
 | some q=>obtain⟨b,cap,n⟩:=q;obtain⟨rfl,h2,h3,cur,e,h4,h5,h6⟩:=h;exact .inr ⟨b,cap,cur,e,hn,h4,h2,h3,h5,h6⟩
theorem En{g:G}{w:World}{t:Ty}{l:List (ET F t)}{pl:Pl}{c:Nat}{v:Value}(h:bD w g.IV t l pl)(hn:g.ids c=some pl)(hv:Lf pl v):Jz (F:=F) g w (.KP c) v:=by
 cases pl with
 | none=>obtain⟨p,rfl⟩:=hv;exact .ML p hn
 | some q=>obtain⟨b,cap,n⟩:=q;obtain⟨rfl,h2,h3,_⟩:=h;cases hv;exact .KP hn h2 h3
theorem FE{g:G}{w:World}{t:Ty}{l:List (ET F t)}{pl:Pl}{c:Nat}{v:Value}(h:M8 w g.IV t l pl)(hn:g.ids c=some pl)(hv:Lf pl v):Jz (F:=F) g w (.KP c) v:=by
 cases pl with
 | none=>obtain⟨p,rfl⟩:=hv;exact .ML p hn
 | some q=>
  obtain⟨b,cap,n⟩:=q;obtain⟨h1,h2,h3,_⟩:=h;cases hv
  exact .KP hn (by rw[h1];exact h2) h3
theorem nI{g:G}{w:World}{t:Ty}{l:List (ET F t)}{pl:Pl}{c:Nat}(h:LM w g.IV t l pl)(hn:g.ids c=some pl):KL g w c (Oy t l):=by
 unfold LM at h;unfold Oy
 cases ht:t.KS with
 | true=>rw[ht,if_pos rfl]at h;obtain⟨b,rfl,h⟩:=h;exact⟨b,hn,h⟩
 | false=>
  rw[ht,if_neg (by simp)]at h
  exact Bo h hn
theorem Cm{g:G}{w:World}{t:Ty}{l:List (ET F t)}{pl:Pl}{c:Nat}{v:Value}(h:LM w g.IV t l pl)(hn:g.ids c=some pl)(hv:Pg t pl v):Jz (F:=F) g w (aas F t c) v:=by
 unfold LM at h;unfold Pg at hv;unfold aas
 cases ht:t.KS with
 | true=>rw[ht,if_pos rfl]at hv;obtain⟨b,rfl,rfl⟩:=hv;exact .Oa hn
 | false=>
  rw[ht,if_neg (by simp)]at h hv
  exact En h hn hv
theorem iH{ow:List Nat}:∀{ds:List (ND F)} {k c:Nat} {vs:List Value} {Ja:List Pl},J8 w g.IV ow k ds vs Ja→Mx g c Ja→
  (LX ow k c ds).1.length=vs.length∧(∀(j:Nat)(x:Ko F)(v:Value),(LX ow k c ds).1[j]? = some x→vs[j]? = some v→Jz g w x v)∧Laid g w c Ja.length (LX ow k c ds).2.1∧(LX ow k c ds).2.2=c+Ja.length∧vs.length=ds.length
 | [],k,c,vs,Ja,h,hn=>by
  cases vs with
  | cons v vs=>simp[J8]at h
  | nil=>
   simp only[J8]at h;subst h
   exact⟨rfl,by simp[LX],λp hp=>by simp[LX]at hp,rfl,rfl⟩
 | d::ds,k,c,vs,Ja,h,hn=>by
  cases vs with
  | nil=>simp[J8]at h
  | cons v vs=>
   simp only[J8]at h;split at h
   ·rename_i hk;split at h
    ·rename_i t l;obtain⟨pl,rest,rfl,h1,h2,h3⟩:=h;have hn0:g.ids c=some pl:=hn 0 pl rfl
     have hn':Mx g (c+1) rest:=λj q hj=>by
      have:=hn (j+1) q (by simpa using hj)
      rwa [show c+1+j=c+(j+1)by omega]
     obtain⟨k1,k2,k3,k4,k5⟩:=iH (c:=c+1) h3 hn';simp only[LX,hk,if_true]
     refine⟨by simp[k1],?_,?_,by rw[k4,Ri];omega,by simp[k5]⟩
     ·intro j x u hx hu
      cases j with
      | zero=>simp only[M4,KV]at hx hu;subst hx hu;exact Cm h1 hn0 h2
      | succ j=>exact k2 j x u (by simpa using hx) (by simpa using hu)
     ·intro p hp;rcases Li.1 hp with rfl | hp
      ·exact⟨0,rfl,by simp,fw,nI h1 hn0⟩
      ·obtain⟨j,q1,q2,q3⟩:=k3 p hp
       exact⟨j+1,by omega,by simp only[Ri];omega,q3⟩
    ·exact h.elim
   ·rename_i hk;split at h
    ·rename_i hk2;split at h
     ·rename_i t l;obtain⟨pl,rest,rfl,h1,h2,h3⟩:=h;have hn0:g.ids c=some pl:=hn 0 pl rfl
      have hn':Mx g (c+1) rest:=λj q hj=>by
       have:=hn (j+1) q (by simpa using hj)
       rwa [show c+1+j=c+(j+1)by omega]
      obtain⟨k1,k2,k3,k4,k5⟩:=iH (c:=c+1) h3 hn';simp only[LX,hk,hk2,Nb,if_false,if_true]
      refine⟨by simp[k1],?_,?_,by rw[k4,Ri];omega,by simp[k5]⟩
      ·intro j x u hx hu
       cases j with
       | zero=>simp only[M4,KV]at hx hu;subst hx hu;exact FE h1 hn0 h2
       | succ j=>exact k2 j x u (by simpa using hx) (by simpa using hu)
      ·intro p hp;rcases Li.1 hp with rfl | hp
       ·exact⟨0,rfl,by simp,rfl,⟨pl,hn0,h1⟩⟩
       ·obtain⟨j,q1,q2,q3⟩:=k3 p hp
        exact⟨j+1,by omega,by simp only[Ri];omega,q3⟩
     ·exact h.elim
    ·rename_i hk2;obtain⟨k1,k2,k3,k4,k5⟩:=iH (c:=c) h.2 hn;simp only[LX,hk,hk2,Nb,if_false]
     refine⟨by simp[k1],?_,k3,k4,by simp[k5]⟩
     intro j x u hx hu
     cases j with
     | zero=>simp only[M4,KV]at hx hu;subst hx hu;exact .im h.1
     | succ j=>exact k2 j x u (by simpa using hx) (by simpa using hu)
theorem EL{t:Ty}{ow:List Nat}{x:ET F t}{v:Value}{Ja:List Pl}{c:Nat}(h:Ky w g.IV t ow x v Ja)(hn:Mx g c Ja) :
  Jr P g w (Sg t (LX ow 0 c (Jc F t x)).1) v∧Laid g w c Ja.length (LX ow 0 c (Jc F t x)).2.1∧(LX ow 0 c (Jc F t x)).2.2=c+Ja.length:=by
 unfold Ky at h;unfold Sg;split at h
 ·rename_i hs;obtain⟨vs,rfl,h⟩:=h;obtain⟨k1,k2,k3,k4,_⟩:=iH (c:=c) h hn;rw[if_pos hs];exact⟨.agg k1.symm k2,k3,k4⟩
 ·rename_i hs;obtain⟨k1,k2,k3,k4,_⟩:=iH (c:=c) h hn;rw[if_neg hs];refine⟨?_,k3,k4⟩
  cases hc:(LX ow 0 c (Jc F t x)).1 with
  | nil=>rw[hc]at k1;simp at k1
  | cons y r=>
   rw[hc]at k1 k2
   cases r with
   | nil=>exact .c (k2 0 y v rfl rfl)
   | cons z r=>exact .c .any
theorem cg{k:Kd}{x:k.El F}{v:Value}{Ja:List Pl}{Jo:List Pl}{c:Nat}(h:Held P w g.IV k x v Ja Jo)(hn:Mx g c Ja) :
  Jr P g w (Mk k x c).1 v∧Laid g w c Ja.length (Mk k x c).2.1∧(Mk k x c).2.2=c+Ja.length:=by
 cases k with
 | v t ow=>exact EL h.1 hn
 | box t ow=>
  obtain⟨bx,rest,rfl,rfl,rfl,arr,e,h1,h2⟩:=h;have hn0:g.ids c=some (some (RI bx)):=hn 0 _ rfl
  have hn':Mx g (c+1) rest:=λj q hj=>by
   have:=hn (j+1) q (by simpa using hj)
   rwa [show c+1+j=c+(j+1)by omega]
  obtain⟨k1,k2,k3,k4,k5⟩:=iH (c:=c+1) h2 hn';simp only[Mk]
  refine⟨.c (.ptr hn0),?_,by rw[k4,Ri];omega⟩
  intro p hp;rcases Li.1 hp with rfl | hp
  ·exact⟨0,rfl,by simp,rfl,bx.1,bx.2,arr,e,hn0,h1,k1.symm,k2⟩
  ·obtain⟨j,q1,q2,q3⟩:=k3 p hp
   exact⟨j+1,by omega,by simp only[Ri];omega,q3⟩
 | rp t=>
  obtain⟨rfl,rfl,h⟩:=h
  refine⟨.c ?_,λp hp=>by simp[Mk]at hp,rfl⟩
  exact Jz.le (g:=⟨λ_=>none,g.IV,λ_=>False⟩) (g':=g) (w':=w) ⟨λ_ _ h=>(by cases h),λ_ h=>h,λ_ _=>rfl,λ_ h=>h.elim,λ_ h=>h.elim⟩ h
 | OU t=>
  obtain⟨rfl,rfl,h⟩:=h
  refine⟨.c ?_,λp hp=>by simp[Mk]at hp,rfl⟩
  exact Jz.le (g:=⟨λ_=>none,g.IV,λ_=>False⟩) (g':=g) (w':=w) ⟨λ_ _ h=>(by cases h),λ_ h=>h,λ_ _=>rfl,λ_ h=>h.elim,λ_ h=>h.elim⟩ h
 | fn ks r=>
  obtain⟨rfl,rfl,h⟩:=h
  exact⟨.fv h,λp hp=>by simp[Mk]at hp,rfl⟩
 | ln t=>
  obtain⟨rfl,rfl,h⟩:=h
  exact⟨.c .any,λp hp=>by simp[Mk]at hp,rfl⟩
 | pk k t=>
  obtain⟨rfl,rfl,h⟩:=h
  exact⟨.c .any,λp hp=>by simp[Mk]at hp,rfl⟩
 | cl f n=>exact h.elim
 | nb t ow=>
  obtain⟨bx,rest,rfl,rfl,rfl,arr,e,h1,h2⟩:=h;have hn0:g.ids c=some (some (RI bx)):=hn 0 _ rfl
  have hn':Mx g (c+1) rest:=λj q hj=>by
   have:=hn (j+1) q (by simpa using hj)
   rwa [show c+1+j=c+(j+1)by omega]
  obtain⟨k1,k2,k3,k4,k5⟩:=iH (c:=c+1) h2 hn';simp only[Mk]
  refine⟨.c (.ptr hn0),?_,by rw[k4,Ri];omega⟩
  intro p hp;rcases Li.1 hp with rfl | hp
  ·exact⟨0,rfl,by simp,rfl,bx.1,bx.2,arr,e,hn0,h1,k1.symm,k2⟩
  ·obtain⟨j,q1,q2,q3⟩:=k3 p hp
   exact⟨j+1,by omega,by simp only[Ri];omega,q3⟩
 | row t arr=>
  obtain⟨pl,rfl,rfl,h1,h2⟩:=h;have hn0:g.ids c=some pl:=hn 0 _ rfl;simp only[Mk];refine⟨yh h1 hn0 h2,?_,rfl⟩;intro p hp;rw[IU]at hp;subst hp
  exact⟨0,rfl,by simp,fw,nI h1 hn0⟩
theorem qC:∀{ks:List Kd}{a:HL F ks}{vs:List Value}{Ja:List Pl} {Jo:List Pl} {c:Nat},bR P w g.IV ks a vs Ja Jo→Mx g c Ja→
  Kl P g w (K6 ks a c).1 vs∧Laid g w c Ja.length (K6 ks a c).2.1∧(K6 ks a c).2.2=c+Ja.length∧(aN ks a c).map g.ids=Jo.map some
 | [],a,vs,Ja,Jo,c,h,hn=>by
  obtain⟨rfl,rfl,rfl⟩:=h
  exact⟨⟨rfl,by simp[K6]⟩,λp hp=>by simp[K6]at hp,rfl,rfl⟩
 | k::ks,a,vs,Ja,Jo,c,h,hn=>by
  cases hk:k.PE with
  | true=>
   cases k with
   | cl f n=>
    obtain⟨us,vs',rfl,hl,h2⟩:=h;obtain⟨l1,l2,l3,l4⟩:=qC (c:=c) h2 hn;simp only[K6]
    exact⟨Ek hl l1,l2,l3,by simp only[aN,Mk];exact l4⟩
   | _=>cases hk
  | false=>
  obtain⟨v,vs',p1,p2,b1,b2,rfl,rfl,rfl,h1,h2⟩:=lV hk h;rw[BI hk];obtain⟨k1,k2,k3⟩:=cg (c:=c) h1 hn.left;obtain⟨l1,l2,l3,l4⟩:=qC (c:=c+p1.length) h2 hn.right;rw[k3];dsimp only
  refine⟨aP.2 ⟨k1,l1⟩,by rw[IT];exact k2.append l2,by rw[l3,IT];omega,?_⟩
  have hb:(aN (k::ks) a c).map g.ids=b1.map some++(aN ks a.2 (c+p1.length)).map g.ids:=by
   cases k with
   | box t ow=>obtain⟨bx,rest,rfl,rfl,_⟩:=h1;have hn0:g.ids c=some (some (RI bx)):=hn 0 _ rfl;simp only[aN,k3,KZ,hn0,Lx,List.singleton_append]
   | v t ow=>have:=h1.2;subst this;simp only[aN,k3,Lx,OY]
   | rp t=>have:=h1.2.1;subst this;simp only[aN,k3,Lx,OY]
   | fn ks' r=>have:=h1.2.1;subst this;simp only[aN,k3,Lx,OY]
   | OU t=>have:=h1.2.1;subst this;simp only[aN,k3,Lx,OY]
   | pk k t=>have:=h1.2.1;subst this;simp only[aN,k3,Lx,OY]
   | ln t=>have:=h1.2.1;subst this;simp only[aN,k3,Lx,OY]
   | nb t ow=>obtain⟨_,_,rfl,_⟩:=h1;simp only[aN,k3,Lx,OY]
   | cl f n=>cases hk
   | row t arr=>obtain⟨pl,rfl,rfl,_⟩:=h1;have hn0:g.ids c=some pl:=hn 0 _ rfl;simp only[aN,k3,KZ,hn0,Lx,List.singleton_append]
  rw[hb,l4,SL]
end
set_option linter.unusedVariables false
set_option linter.unusedSimpArgs false
section
variable{F:Fam}{P:Program}{own:Ow}{g:G}{w:World}{m mm:Nat→Option (Jw F)}{Γ : Ctx F}
theorem bO{b:Nat}:∀{Ja:List Pl},b∈Ht Ja↔∃(j:Nat)(b0:Nat)(x:Nat×Nat×NS),Ja[j]? = some (some (b0,x))∧b∈b0::Km x.2.2
 | []=>by simp[Ht]
 | none::l=>by
  simp only[Ht,bO];constructor
  ·rintro⟨j,b0,x,h,h'⟩;exact⟨j+1,b0,x,by simpa using h,h'⟩
  ·rintro⟨j,b0,x,h,h'⟩
   cases j with
   | zero=>simp at h
   | succ j=>exact⟨j,b0,x,by simpa using h,h'⟩
 | some (b',y)::l=>by
  simp only[Ht];rw[← SE,Mi,bO];constructor
  ·rintro(h | ⟨j,b0,x,h,h'⟩)
   ·exact⟨0,b',y,rfl,h⟩
   ·exact⟨j+1,b0,x,by simpa using h,h'⟩
  ·rintro⟨j,b0,x,h,h'⟩
   cases j with
   | zero=>simp only[M4,KV,Prod.mk.injEq]at h;obtain⟨rfl,rfl⟩:=h;exact .inl h'
   | succ j=>exact .inr ⟨j,b0,x,by simpa using h,h'⟩
theorem iI{b:Nat}:∀{Ja:List Pl},(Ht Ja).Nodup→∀{j j' b0 b0':Nat}{x x':Nat×Nat×NS},Ja[j]? = some (some (b0,x))→b∈b0::Km x.2.2→Ja[j']? = some (some (b0',x'))→b∈b0'::Km x'.2.2→j=j'
 | [],_,j,j',b0,b0',x,x',h,_,h',_=>by simp at h
 | none::l,hn,j,j',b0,b0',x,x',h,hb,h',hb'=>by
  cases j with
  | zero=>simp at h
  | succ j=>
   cases j' with
   | zero=>simp at h'
   | succ j'=>exact congrArg (· + 1) (iI (Ja:=l) hn (by simpa using h) hb (by simpa using h') hb')
 | some (b',y)::l,hn,j,j',b0,b0',x,x',h,hb,h',hb'=>by
  simp only[Ht]at hn;rw[← SE]at hn;obtain⟨n1,n2,n3⟩:=Wz.1 hn
  cases j with
  | zero=>
   cases j' with
   | zero=>rfl
   | succ j'=>
    simp only[M4,KV,Prod.mk.injEq]at h;obtain⟨rfl,rfl⟩:=h
    exact absurd rfl (n3 b hb b (bO.2 ⟨j',b0',x',by simpa using h',hb'⟩))
  | succ j=>
   cases j' with
   | zero=>
    simp only[M4,KV,Prod.mk.injEq]at h';obtain⟨rfl,rfl⟩:=h'
    exact absurd rfl (n3 b hb' b (bO.2 ⟨j,b0,x,by simpa using h,hb⟩))
   | succ j'=>exact congrArg (· + 1) (iI (Ja:=l) n2 (by simpa using h) hb (by simpa using h') hb')
theorem av:∀{p q:List Pl},Ht (p++q)=Ht p++Ht q
 | [],q=>rfl
 | none::p,q=>by simp only[SE,Ht,av]
 | some (b,x)::p,q=>by simp only[SE,Ht,av,MF]
def Og(g:G)(w:World)(c n:Nat)(bx:List Nat)(bs:List (Nat×Jw F)):Prop:=∀p∈bs,p.2.owned=true∧KL g w p.1 p.2∧((∃j,p.1=c+j∧j<n)∨p.1∈bx)
theorem Laid.back{c n:Nat}{bs:List (Nat×Jw F)}(h:Laid g w c n bs):Og g w c n [] bs:=by intro p hp;obtain⟨j,h1,h2,h3,h4⟩:=h p hp;exact⟨h3,h4,.inl ⟨j,h1,h2⟩⟩
theorem Og.append{c n1 n2:Nat}{x1 x2:List Nat}{b1 b2:List (Nat×Jw F)}(h1:Og g w c n1 x1 b1)(h2:Og g w (c+n1) n2 x2 b2):Og g w c (n1+n2) (x1++x2) (b1++b2):=by
 intro p hp;rcases Mi.1 hp with hp | hp
 ·obtain⟨k1,k2,⟨j,k3,k4⟩ | k3⟩:=h1 p hp
  ·exact⟨k1,k2,.inl ⟨j,k3,by omega⟩⟩
  ·exact⟨k1,k2,.inr (by simp[k3])⟩
 ·obtain⟨k1,k2,⟨j,k3,k4⟩ | k3⟩:=h2 p hp
  ·exact⟨k1,k2,.inl ⟨n1+j,by omega,by omega⟩⟩
  ·exact⟨k1,k2,.inr (by simp[k3])⟩
theorem ur{t:Ty}{ow:List Nat}{x:ET F t}{bx:Nat×Nat×Nat}{b c:Nat}{Ja:List Pl}(h:Ph w g.IV t ow x bx.1 Ja)(hb:g.ids b=some (some (RI bx)))(hn:Mx g c Ja) :
  Og g w c Ja.length [b] ((b,.box (LX ow 0 c (Jc F t x)).1)::(LX ow 0 c (Jc F t x)).2.1)∧(LX ow 0 c (Jc F t x)).2.2=c+Ja.length:=by
 obtain⟨arr,e,h1,h2⟩:=h;obtain⟨k1,k2,k3,k4,_⟩:=iH (c:=c) h2 hn;refine⟨?_,k4⟩;intro p hp;rcases Li.1 hp with rfl | hp
 ·exact⟨rfl,⟨bx.1,bx.2,arr,e,hb,h1,k1.symm,k2⟩,.inr (by simp)⟩
 ·obtain⟨j,q1,q2,q3,q4⟩:=k3 p hp;exact⟨q3,q4,.inl ⟨j,q1,q2⟩⟩
theorem gK{α β : Type}{f:α→β}{l:List α}{y:β}{r:List β}(h:l.map f=y::r):∃x l',l=x::l'∧f x=y∧l'.map f=r:=by
 cases l with
 | nil=>simp at h
 | cons x l'=>simp only[KZ,QeY]at h;exact⟨x,l',rfl,h.1,h.2⟩
theorem df:∀{ks:List Kd}{a:TL F ks}{vs:List Value}{Jo:List Pl} {Ja:List Pl} {bx:List Nat} {c:Nat},bF P w g.IV ks a vs Jo Ja→Mx g c Ja→bx.map g.ids=Jo.map some→
  Kl P g w (ap ks a bx c).1 vs∧Og g w c Ja.length bx (ap ks a bx c).2.1∧(ap ks a bx c).2.2=c+Ja.length
 | [],a,vs,Jo,Ja,bx,c,h,hn,hb=>by
  obtain⟨rfl,rfl,rfl⟩:=h
  exact⟨⟨rfl,by simp[ap]⟩,λp hp=>by simp[ap]at hp,rfl⟩
 | [.box t ow],a,vs,Jo,Ja,bx,c,h,hn,hb=>by
  obtain⟨b,rfl,rfl,h⟩:=h;obtain⟨i,bx',rfl,h1,h2⟩:=gK hb
  have:bx' = []:=by simpa using h2
  subst this;obtain⟨k1,k2⟩:=ur h h1 hn
  exact⟨⟨rfl,by simp[ap]⟩,by simpa[ap]using k1,by simpa[ap]using k2⟩
 | [.row t arr],a,vs,Jo,Ja,bx,c,h,hn,hb=>by
  obtain⟨pl,rfl,rfl,h,rfl⟩:=h;obtain⟨i,bx',rfl,h1,h2⟩:=gK hb
  have:bx' = []:=by simpa using h2
  subst this
  refine⟨⟨rfl,by simp[ap]⟩,?_,rfl⟩
  intro p hp;simp only[ap,IU]at hp;subst hp
  exact⟨fw,nI h h1,.inr (by simp)⟩
 | .row t arr::l::ks,a,vs,Jo,Ja,bx,c,h,hn,hb=>by
  obtain⟨pl,Np,rfl,h1,h2⟩:=h;obtain⟨i,bx',rfl,h3,h4⟩:=gK hb;obtain⟨l1,l2,l3⟩:=df (c:=c) h2 hn h4;simp only[ap];refine⟨l1,?_,l3⟩;intro p hp;rcases Li.1 hp with rfl | hp
  ·exact⟨fw,nI h1 h3,.inr (by simp)⟩
  ·obtain⟨q1,q2,q3⟩:=l2 p hp
   exact⟨q1,q2,q3.imp id (λh=>by simp[h])⟩
 | [.v t ow],a,vs,Jo,Ja,bx,c,h,hn,hb=>by
  obtain⟨v,rfl,rfl,h⟩:=h;obtain⟨k1,k2,k3⟩:=cg (c:=c) h hn
  have:bx = []:=by simpa using hb
  subst this
  exact⟨⟨rfl,λk d x h1 h2=>by cases k with | zero=>simp[ap]at h1 h2;subst h1 h2;exact k1 | succ k=>simp[ap]at h1⟩,by simpa[ap]using k2.back,by simpa[ap]using k3⟩
 | [.cl f n],a,vs,Jo,Ja,bx,c,h,hn,hb=>by obtain⟨v,rfl,rfl,h⟩:=h;exact h.elim
 | .cl f n::l::ks,a,vs,Jo,Ja,bx,c,h,hn,hb=>by obtain⟨v,vs',p1,p2,rfl,rfl,h1,h2⟩:=h;exact h1.elim
 | [.rp t],a,vs,Jo,Ja,bx,c,h,hn,hb=>by
  obtain⟨v,rfl,rfl,h⟩:=h;obtain⟨k1,k2,k3⟩:=cg (c:=c) h hn
  have:bx = []:=by simpa using hb
  subst this
  exact⟨⟨rfl,λk d x h1 h2=>by cases k with | zero=>simp[ap]at h1 h2;subst h1 h2;exact k1 | succ k=>simp[ap]at h1⟩,by simpa[ap]using k2.back,by simpa[ap]using k3⟩
 | [.OU t],a,vs,Jo,Ja,bx,c,h,hn,hb=>by
  obtain⟨v,rfl,rfl,h⟩:=h;obtain⟨k1,k2,k3⟩:=cg (c:=c) h hn
  have:bx = []:=by simpa using hb
  subst this
  exact⟨⟨rfl,λk d x h1 h2=>by cases k with | zero=>simp[ap]at h1 h2;subst h1 h2;exact k1 | succ k=>simp[ap]at h1⟩,by simpa[ap]using k2.back,by simpa[ap]using k3⟩
 | [.pk k0 t],a,vs,Jo,Ja,bx,c,h,hn,hb=>by
  obtain⟨v,rfl,rfl,h⟩:=h;obtain⟨k1,k2,k3⟩:=cg (c:=c) h hn
  have:bx = []:=by simpa using hb
  subst this
  exact⟨⟨rfl,λk d x h1 h2=>by cases k with | zero=>simp[ap]at h1 h2;subst h1 h2;exact k1 | succ k=>simp[ap]at h1⟩,by simpa[ap]using k2.back,by simpa[ap]using k3⟩
 | [.ln t],a,vs,Jo,Ja,bx,c,h,hn,hb=>by
  obtain⟨v,rfl,rfl,h⟩:=h;obtain⟨k1,k2,k3⟩:=cg (c:=c) h hn
  have:bx = []:=by simpa using hb
  subst this
  exact⟨⟨rfl,λk d x h1 h2=>by cases k with | zero=>simp[ap]at h1 h2;subst h1 h2;exact k1 | succ k=>simp[ap]at h1⟩,by simpa[ap]using k2.back,by simpa[ap]using k3⟩
 | [.nb t ow],a,vs,Jo,Ja,bx,c,h,hn,hb=>by
  obtain⟨v,rfl,rfl,h⟩:=h;obtain⟨k1,k2,k3⟩:=cg (c:=c) h hn
  have:bx = []:=by simpa using hb
  subst this
  exact⟨⟨rfl,λk d x h1 h2=>by cases k with | zero=>simp[ap]at h1 h2;subst h1 h2;exact k1 | succ k=>simp[ap]at h1⟩,by simpa[ap]using k2.back,by simpa[ap]using k3⟩
 | [.fn ks r],a,vs,Jo,Ja,bx,c,h,hn,hb=>by
  obtain⟨v,rfl,rfl,h⟩:=h;obtain⟨k1,k2,k3⟩:=cg (c:=c) h hn
  have:bx = []:=by simpa using hb
  subst this
  exact⟨⟨rfl,λk d x h1 h2=>by cases k with | zero=>simp[ap]at h1 h2;subst h1 h2;exact k1 | succ k=>simp[ap]at h1⟩,by simpa[ap]using k2.back,by simpa[ap]using k3⟩
 | .box t ow::l::ks,a,vs,Jo,Ja,bx,c,h,hn,hb=>by
  obtain⟨b,Np,p1,p2,rfl,rfl,h1,h2⟩:=h;obtain⟨i,bx',rfl,h3,h4⟩:=gK hb;obtain⟨k1,k2⟩:=ur h1 h3 hn.left;obtain⟨l1,l2,l3⟩:=df (c:=c+p1.length) h2 hn.right h4;simp only[ap];rw[k2]
  refine⟨l1,?_,by rw[l3,IT];omega⟩
  rw[IT];have:=k1.append l2;simpa using this
 | .v t ow::l::ks,a,vs,Jo,Ja,bx,c,h,hn,hb=>by
  obtain⟨v,vs',p1,p2,rfl,rfl,h1,h2⟩:=h;obtain⟨k1,k2,k3⟩:=cg (c:=c) h1 hn.left;obtain⟨l1,l2,l3⟩:=df (c:=c+p1.length) h2 hn.right hb;simp only[ap];rw[k3]
  refine⟨aP.2 ⟨k1,l1⟩,?_,by rw[l3,IT];omega⟩
  rw[IT];simpa using k2.back.append l2
 | .rp t::l::ks,a,vs,Jo,Ja,bx,c,h,hn,hb=>by
  obtain⟨v,vs',p1,p2,rfl,rfl,h1,h2⟩:=h;obtain⟨k1,k2,k3⟩:=cg (c:=c) h1 hn.left;obtain⟨l1,l2,l3⟩:=df (c:=c+p1.length) h2 hn.right hb;simp only[ap];rw[k3]
  refine⟨aP.2 ⟨k1,l1⟩,?_,by rw[l3,IT];omega⟩
  rw[IT];simpa using k2.back.append l2
 | .OU t::l::ks,a,vs,Jo,Ja,bx,c,h,hn,hb=>by
  obtain⟨v,vs',p1,p2,rfl,rfl,h1,h2⟩:=h;obtain⟨k1,k2,k3⟩:=cg (c:=c) h1 hn.left;obtain⟨l1,l2,l3⟩:=df (c:=c+p1.length) h2 hn.right hb;simp only[ap];rw[k3]
  refine⟨aP.2 ⟨k1,l1⟩,?_,by rw[l3,IT];omega⟩
  rw[IT];simpa using k2.back.append l2
 | .pk k0 t::l::ks,a,vs,Jo,Ja,bx,c,h,hn,hb=>by
  obtain⟨v,vs',p1,p2,rfl,rfl,h1,h2⟩:=h;obtain⟨k1,k2,k3⟩:=cg (c:=c) h1 hn.left;obtain⟨l1,l2,l3⟩:=df (c:=c+p1.length) h2 hn.right hb;simp only[ap];rw[k3]
  refine⟨aP.2 ⟨k1,l1⟩,?_,by rw[l3,IT];omega⟩
  rw[IT];simpa using k2.back.append l2
 | .ln t::l::ks,a,vs,Jo,Ja,bx,c,h,hn,hb=>by
  obtain⟨v,vs',p1,p2,rfl,rfl,h1,h2⟩:=h;obtain⟨k1,k2,k3⟩:=cg (c:=c) h1 hn.left;obtain⟨l1,l2,l3⟩:=df (c:=c+p1.length) h2 hn.right hb;simp only[ap];rw[k3]
  refine⟨aP.2 ⟨k1,l1⟩,?_,by rw[l3,IT];omega⟩
  rw[IT];simpa using k2.back.append l2
 | .nb t ow::l::ks,a,vs,Jo,Ja,bx,c,h,hn,hb=>by
  obtain⟨v,vs',p1,p2,rfl,rfl,h1,h2⟩:=h;obtain⟨k1,k2,k3⟩:=cg (c:=c) h1 hn.left;obtain⟨l1,l2,l3⟩:=df (c:=c+p1.length) h2 hn.right hb;simp only[ap];rw[k3]
  refine⟨aP.2 ⟨k1,l1⟩,?_,by rw[l3,IT];omega⟩
  rw[IT];simpa using k2.back.append l2
 | .fn ks' r::l::ks,a,vs,Jo,Ja,bx,c,h,hn,hb=>by
  obtain⟨v,vs',p1,p2,rfl,rfl,h1,h2⟩:=h;obtain⟨k1,k2,k3⟩:=cg (c:=c) h1 hn.left;obtain⟨l1,l2,l3⟩:=df (c:=c+p1.length) h2 hn.right hb;simp only[ap];rw[k3]
  refine⟨aP.2 ⟨k1,l1⟩,?_,by rw[l3,IT];omega⟩
  rw[IT];simpa using k2.back.append l2
theorem qr{IV Jg:Nat→Prop}:∀{ds:List (ND F)} {k:Nat} {vs:List Value} {Ja:List Pl},(∀d∈ds,d.flat=true)→J8 w IV [] k ds vs Ja→J8 w Jg [] k ds vs Ja
 | [],k,vs,Ja,_,h=>by cases vs<;>simp_all [J8]
 | d::ds,k,vs,Ja,hf,h=>by
  cases vs with
  | nil=>simp[J8]at h
  | cons v vs=>
   simp only[J8,Jp,Nb,if_false]at h ⊢
   exact⟨h.1.flat (hf d (by simp)),qr (λd hd=>hf d (by simp[hd])) h.2⟩
theorem vD{t:Ty}(hf:cC F t=true){l:List (ET F t)}:∀d∈cells F t l,d.flat=true:=by intro d hd;simp only[cells,List.mem_flatten,Ot]at hd;obtain⟨_,⟨x,_,rfl⟩,hd⟩:=hd;exact n_ hf x d hd
theorem xa{IV Jg:Nat→Prop}{t:Ty}{l:List (ET F t)}{pl:Pl}(hf:cC F t=true)(hm:t.KS=false)(h:LM w IV t l pl):LM w Jg t l pl:=by
 rw[dB hm]at h ⊢
 cases pl with
 | none=>exact h
 | some q=>obtain⟨q1,q2,q3,cur,e,q4,q5,q6⟩:=h;exact⟨q1,q2,q3,cur,e,q4,q5,λk d z a b=>(q6 k d z a b).flat (vD hf d (Rk a))⟩
theorem ox{IV Jg:Nat→Prop}{ow:List Nat}:∀{ts:List Ty}{a:Jk F ts}{k:Nat}{vs:List Value} {Ja:List Pl},sR F ow k ts=true→J8 w IV ow k (LJ F ts a) vs Ja→J8 w Jg ow k (LJ F ts a) vs Ja
 | [],a,k,vs,Ja,_,h=>by cases vs<;>simp_all [LJ,J8]
 | t::ts,a,k,vs,Ja,hf,h=>by
  simp only[sR,KQ]at hf
  cases vs with
  | nil=>simp[LJ,J8]at h
  | cons v vs=>
   simp only[LJ,J8]at h ⊢
   cases t with
   | slice e=>
    simp only[KQ]at hf;rw[if_pos hf.1.1.1]at h ⊢;simp only[enc1]at h ⊢;obtain⟨pl,rest,k1,k2,k3,k4⟩:=h
    exact⟨pl,rest,k1,xa hf.1.1.2 (by simpa using hf.1.2) k2,k3,ox hf.2 k4⟩
   | st n=>simp at hf
   | int kk=>
    simp only[enc1]at h ⊢;split at h
    ·exact h.elim
    ·split at h
     ·exact h.elim
     ·rename_i h1 h2;rw[if_neg h1,if_neg h2];exact⟨h.1.flat rfl,ox hf.2 h.2⟩
   | bool=>
    simp only[enc1]at h ⊢;split at h
    ·exact h.elim
    ·split at h
     ·exact h.elim
     ·rename_i h1 h2;rw[if_neg h1,if_neg h2];exact⟨h.1.flat rfl,ox hf.2 h.2⟩
   | str=>
    simp only[enc1]at h ⊢;split at h
    ·exact h.elim
    ·split at h
     ·exact h.elim
     ·rename_i h1 h2;rw[if_neg h1,if_neg h2];exact⟨h.1.flat rfl,ox hf.2 h.2⟩
theorem xl{IV Jg:Nat→Prop}{k:Kd}(hf:k.KD F=true){x:k.El F}{v:Value}{Ja:List Pl}{Jo:List Pl}(h:Held P w IV k x v Ja Jo):Held P w Jg k x v Ja Jo:=by
 cases k with
 | box=>simp[Kd.KD]at hf
 | rp=>simp[Kd.KD]at hf
 | fn=>simp[Kd.KD]at hf
 | row=>simp[Kd.KD]at hf
 | OU=>simp[Kd.KD]at hf
 | pk=>simp[Kd.KD]at hf
 | ln=>simp[Kd.KD]at hf
 | nb=>simp[Kd.KD]at hf
 | cl=>simp[Kd.KD]at hf
 | v t ow=>
  obtain⟨h1,h2⟩:=h;refine⟨?_,h2⟩
  cases ow with
  | nil=>
   simp only[Kd.KD]at hf;unfold Ky at h1 ⊢;split
   ·rename_i hs;rw[if_pos hs]at h1;obtain⟨vs,k1,k2⟩:=h1;exact⟨vs,k1,qr (n_ hf x) k2⟩
   ·rename_i hs;rw[if_neg hs]at h1;exact qr (n_ hf x) h1
  | cons y ow=>
   cases t with
   | slice t=>
    simp only[Kd.KD,KQ]at hf;unfold Ky at h1 ⊢;simp only[Ty.K4,Nb,if_false,Jc,J8,hf.1.1,if_true]at h1 ⊢;obtain⟨pl,rest,k1,k2,k3,k4⟩:=h1
    exact⟨pl,rest,k1,xa hf.1.2 (by simpa using hf.2) k2,k3,k4⟩
   | int=>simp[Kd.KD]at hf
   | bool=>simp[Kd.KD]at hf
   | str=>simp[Kd.KD]at hf
   | st n=>simp only[Kd.KD,KQ]at hf;unfold Ky at h1 ⊢;simp only[Ty.K4,if_true]at h1 ⊢;obtain⟨vs,k1,k2⟩:=h1;exact⟨vs,k1,ox hf.2 k2⟩
theorem rS{IV Jg:Nat→Prop}:∀{ks:List Kd}{a:TL F ks}{vs:List Value}{Jo:List Pl} {Ja:List Pl},ks.all (Kd.KD F)=true→bF P w IV ks a vs Jo Ja→bF P w Jg ks a vs Jo Ja
 | [],a,vs,Jo,Ja,hf,h=>h
 | [.box t ow],a,vs,Jo,Ja,hf,h=>by simp[Kd.KD]at hf
 | [.v t ow],a,vs,Jo,Ja,hf,h=>by simp only[Tt,List.all_nil,Bool.and_true]at hf;obtain⟨v,h1,h2,h3⟩:=h;exact⟨v,h1,h2,xl hf h3⟩
 | [.rp t],a,vs,Jo,Ja,hf,h=>by simp[Kd.KD]at hf
 | [.fn t r],a,vs,Jo,Ja,hf,h=>by simp[Kd.KD]at hf
 | [.OU t],a,vs,Jo,Ja,hf,h=>by simp[Kd.KD]at hf
 | [.pk k0 t],a,vs,Jo,Ja,hf,h=>by simp[Kd.KD]at hf
 | [.ln t],a,vs,Jo,Ja,hf,h=>by simp[Kd.KD]at hf
 | [.nb t ow],a,vs,Jo,Ja,hf,h=>by simp[Kd.KD]at hf
 | [.row t r],a,vs,Jo,Ja,hf,h=>by simp[Kd.KD]at hf
 | [.cl f n],a,vs,Jo,Ja,hf,h=>by simp[Kd.KD]at hf
 | .cl f n::l::ks,a,vs,Jo,Ja,hf,h=>by simp[Kd.KD]at hf
 | .box t ow::l::ks,a,vs,Jo,Ja,hf,h=>by simp[Kd.KD]at hf
 | .v t ow::l::ks,a,vs,Jo,Ja,hf,h=>by
  simp only[Tt,KQ]at hf;obtain⟨v,vs',p1,p2,h1,h2,h3,h4⟩:=h
  exact⟨v,vs',p1,p2,h1,h2,xl hf.1 h3,rS (by simpa using hf.2) h4⟩
 | .rp t::l::ks,a,vs,Jo,Ja,hf,h=>by simp[Kd.KD]at hf
 | .fn t r::l::ks,a,vs,Jo,Ja,hf,h=>by simp[Kd.KD]at hf
 | .OU t::l::ks,a,vs,Jo,Ja,hf,h=>by simp[Kd.KD]at hf
 | .pk k0 t::l::ks,a,vs,Jo,Ja,hf,h=>by simp[Kd.KD]at hf
 | .ln t::l::ks,a,vs,Jo,Ja,hf,h=>by simp[Kd.KD]at hf
 | .nb t ow::l::ks,a,vs,Jo,Ja,hf,h=>by simp[Kd.KD]at hf
 | .row t r::l::ks,a,vs,Jo,Ja,hf,h=>by simp[Kd.KD]at hf
end
set_option linter.unusedVariables false
set_option linter.unusedSimpArgs false
section
variable{F:Fam}{P:Program}{own:Ow}{g g1:G}{w:World}{m m1 mm:Nat→Option (Jw F)}{Γ : Ctx F}{o:Oper}{a:Act}{c:Nat}
theorem eB:∀{l:List Nat},cD l=true→l.Nodup
 | [],_=>Zt
 | x::l,h=>by
  simp only[cD,KQ,Rj]at h;refine Pv.2 ⟨λhx=>?_,eB h.2⟩;rw[aK.2 hx]at h
  exact absurd h.1 (by simp)
theorem jK:∀{l r:List Nat},Ny l r=true→∀x∈l,x∉r
 | [],r,_,x,hx=>by simp at hx
 | y::l,r,h,x,hx=>by
  simp only[Ny,KQ,Rj]at h;rcases Li.1 hx with rfl | hx
  ·intro hr;rw[aK.2 hr]at h
   exact absurd h.1 (by simp)
  ·exact jK h.2 x hx
theorem dh{id:Nat}:∀{l:List (Option Nat)},id∈Kh l↔some id∈l
 | []=>by simp[Kh]
 | some x::l=>by simp[Kh,dh]
 | none::l=>by simp[Kh,dh]
theorem G.blk_iff{g:G}{id b:Nat}{b0:Nat}{c:Nat×Nat×NS}(h:g.ids id=some (some (b0,c))):g.blk id b↔b∈b0::Km c.2.2:=by
 constructor
 ·rintro⟨b1,c1,h1,h2⟩;rw[h]at h1;cases h1;exact h2
 ·exactλhb=>⟨b0,c,h,hb⟩
theorem G.Xr{g:G}{id b:Nat}(h:g.ids id=none):¬ g.blk id b:=by rintro⟨b1,c1,h1,_⟩;rw[h]at h1;cases h1
theorem bC{b:Nat}:∀{os:List (Option Nat)},b∈Ht (os.map (J7 g))↔∃id,some id∈os∧g.blk id b
 | []=>by simp[Ht]
 | none::os=>by simp[Ht,J7,bC]
 | some i::os=>by
  simp only[KZ,Li,KV]
  cases hi:g.ids i with
  | none=>
   simp only[J7,hi,Option.getD_none,Ht,bC];constructor
   ·rintro⟨id,h,k⟩;exact⟨id,.inr h,k⟩
   ·rintro⟨id,rfl | h,k⟩
    ·exact(G.Xr hi k).elim
    ·exact⟨id,h,k⟩
  | some q=>
   cases q with
   | none=>
    simp only[J7,hi,SQ,Ht,bC];constructor
    ·rintro⟨id,h,k⟩;exact⟨id,.inr h,k⟩
    ·rintro⟨id,rfl | h,k⟩
     ·exact(G.Rx hi k).elim
     ·exact⟨id,h,k⟩
   | some q=>
    obtain⟨b',x⟩:=q;simp only[J7,hi,SQ,Ht];rw[← SE,Mi,bC];constructor
    ·rintro(h | ⟨id,h,k⟩)
     ·exact⟨i,.inl rfl,(G.blk_iff hi).2 h⟩
     ·exact⟨id,.inr h,k⟩
    ·rintro⟨id,rfl | h,k⟩
     ·exact .inl ((G.blk_iff hi).1 k)
     ·exact .inr ⟨id,h,k⟩
theorem eZ(hm:Je own g w m):∀{os:List (Option Nat)},(Kh os).Nodup→(∀id,some id∈os→∃B,m id=some B∧B.owned=true)→(Ht (os.map (J7 g))).Nodup
 | [],_,_=>by simp[Ht]
 | none::os,h,k=>by
  simp only[KZ,J7,Ht]
  exact eZ hm h (λid hid=>k id (by simp[hid]))
 | some i::os,h,k=>by
  simp only[Kh,Pv]at h
  have ih:=eZ hm h.2 (λid hid=>k id (by simp[hid]))
  simp only[KZ]
  cases hp:J7 g (some i)with
  | none=>simpa[Ht]using ih
  | some q=>
   obtain⟨b,x⟩:=q
   have hi:g.ids i=some (some (b,x)):=by
    simp only[J7]at hp
    cases hg:g.ids i with
    | none=>rw[hg]at hp;cases hp
    | some q=>rw[hg]at hp;simp only[SQ]at hp;subst hp;rfl
   obtain⟨B,k1,k2⟩:=k i (by simp)
   simp only[Ht];rw[← SE,Wz];refine⟨?_,ih,?_⟩
   ·have hok:=hm.ok i B k1
    cases B with
    | box cs=>obtain⟨b',c',_,_,h1,_⟩:=hok;rw[hi]at h1;cases h1;simp[Km]
    | row t l=>rcases hok with⟨h1,_⟩ | ⟨b',cap,cur,e,h1,_⟩<;>(rw[hi]at h1;cases h1);simp[Km]
    | KM t l=>obtain⟨pl,h1,h2⟩:=hok;rw[hi]at h1;cases h1;exact h2.2.2.2.2.1
    | Oz t l=>cases k2
    | Ww cs=>cases k2
    | mp t l=>obtain⟨b',h1,_⟩:=hok;rw[hi]at h1;cases h1;simp[Km]
    | it ob=>obtain⟨b',h1,_⟩:=hok;rw[hi]at h1;cases h1;simp[Km]
    | ME k n=>cases k2
    | NY t l i ks=>obtain⟨pl,h1,h2⟩:=hok;rw[hi]at h1;cases h1;exact h2.2.2.2.2.1
    | K5 t l j=>obtain⟨pl,h1,h2⟩:=hok;rw[hi]at h1;cases h1;exact h2.2.2.2.2.1
   ·rintro b1 hb1 b2 hb2 rfl;obtain⟨id,h1,h2⟩:=bC.1 hb2
    obtain⟨B',k3,k4⟩:=k id (by simp[h1])
    have:=hm.Ou i id B B' b1 k1 k3 k2 k4 ((G.blk_iff hi).2 hb1) h2;subst this;exact h.1 (dh.2 h1)
theorem KL.named{id:Nat}{B:Jw F}(h:KL g w id B):g.ids id≠none:=by
 intro hn
 cases B with
 | box cs=>obtain⟨b,c,_,_,h,_⟩:=h;rw[hn]at h;cases h
 | row t l=>rcases h with⟨h,_⟩ | ⟨_,_,_,_,h,_⟩<;>(rw[hn]at h;cases h)
 | KM t l=>obtain⟨pl,h,_⟩:=h;rw[hn]at h;cases h
 | Oz t l=>rcases h with⟨h,_⟩ | ⟨_,_,_,h,_⟩<;>(rw[hn]at h;cases h)
 | Ww cs=>obtain⟨_,_,h,_⟩:=h;rw[hn]at h;cases h
 | mp t l=>obtain⟨_,h,_⟩:=h;rw[hn]at h;cases h
 | it ob=>obtain⟨_,h,_⟩:=h;rw[hn]at h;cases h
 | ME k n=>rcases h with⟨_,_,_,_,h,_⟩ | ⟨h,_⟩<;>(rw[hn]at h;cases h)
 | NY t l i ks=>obtain⟨pl,h,_⟩:=h;rw[hn]at h;cases h
 | K5 t l j=>obtain⟨pl,h,_⟩:=h;rw[hn]at h;cases h
theorem uS{x:Nat}:∀{l:List Nat}{m:Nat→Option (Jw F)},x∈l→Kc m (nones l) x=none:=by
 intro l
 have key:∀(l:List Nat)(m:Nat→Option (Jw F)),m x=none→Kc m (nones l) x=none:=by
  intro l
  induction l with
  | nil=>intro m h;exact h
  | cons y l ih=>
   intro m h;simp only[nones,KZ,Kc];refine ih _ ?_
   split<;>first | rfl | exact h
 induction l with
 | nil=>intro m h;simp at h
 | cons y l ih=>
  intro m h;simp only[nones,KZ,Kc];rcases Li.1 h with rfl | h
  ·exact key l _ (by simp)
  ·exact ih h
theorem rZ{x:Nat}{B:Jw F}:∀{bs:List (Nat×Jw F)} {m:Nat→Option (Jw F)},Kc m (blks bs) x=some B→(x,B)∈bs∨(x∉bs.map (·.1)∧m x=some B)
 | [],m,h=>.inr ⟨by simp,h⟩
 | (y,C)::bs,m,h=>by
  simp only[blks,KZ,Kc]at h;rcases rZ (bs:=bs) h with h | ⟨h1,h2⟩
  ·exact .inl (by simp[h])
  ·by_cases hxy:y=x
   ·subst hxy;simp only[bc,if_true,KV]at h2;subst h2
    exact .inl (by simp)
   ·rw[aj hxy]at h2;simp only[Nb,if_false]at h2
    exact .inr ⟨by simp only[KZ,Li,not_or];exact⟨λe=>hxy e.symm,h1⟩,h2⟩
def G.back(g:G)(c:Nat)(Ja:List Pl)(I:Nat→Prop):G:=⟨λx=>if c≤x∧x<c+Ja.length then Ja[x - c]? else g.ids x,I,g.len⟩
theorem sK{Ja:List Pl}{I:Nat→Prop}:Mx (g.back c Ja I) c Ja:=by
 intro j pl hj;have hlt:=(IS.1 hj).1;simp only[G.back]
 rw[if_pos ⟨by omega,by omega⟩,WV]
 exact hj
theorem cy{Ja:List Pl}{I:Nat→Prop}{x:Nat}(h:¬ (c≤x∧x<c+Ja.length)):(g.back c Ja I).ids x=g.ids x:=by simp only[G.back];rw[if_neg h]
theorem AB{ds:List (Dat F)}{vs:List Value}(h:Kl P g w ds vs):Jr P g w (SS ds) (Px vs):=by
 match ds,vs,h with
 | [d],[v],h=>exact KT h
 | [],[],h=>exact .MC rfl (by simp)
 | d::e::ds,v::x::vs,h=>exact .MC h.1 h.2
 | [],v::vs,h=>exact absurd h.1 (by simp)
 | [d],[],h=>exact absurd h.1 (by simp)
 | [d],v::x::vs,h=>exact absurd h.1 (by simp)
 | d::e::ds,[],h=>exact absurd h.1 (by simp)
 | d::e::ds,[v],h=>exact absurd h.1 (by simp)
theorem i_{bx:List Nat}{Jo:List Pl}(h:bx.map g.ids=Jo.map some){id:Nat}(hi:id∈bx):∃q∈Jo,g.ids id=some q:=by
 have:g.ids id∈Jo.map some:=by rw[← h];exact Zy hi
 obtain⟨q,h1,h2⟩:=Ot.1 this;exact⟨q,h1,h2.symm⟩
theorem qJ{b b0:Nat}{q:Nat×Nat×NS}{Ja:List Pl}(h:some (b0,q)∈Ja)(hb:b∈b0::Km q.2.2):b∈Ht Ja:=by obtain⟨j,hj⟩:=RD h;exact bO.2 ⟨j,b0,q,hj,hb⟩
theorem qO(hm:Je own g w m)(hm1:Je own g1 w m1)(Xz:g1.ids=g.ids)(h1l:g1.len=g.len)(hall:∀b,w.heap.size≤b→own.o b)
  {os:List (Option Nat)} {bx:List Nat} {Jo:List Pl} {J9:List Pl} {bs:List (Nat×Jw F)} {PG Jg I:Nat→Prop} {w':World} {UN:List Pl} (anz:UN=os.map (J7 g))
  (hfr:∀k,k<J9.length→g.ids (c+k)=none)
  (hos:∀id,some id∈os→∃B,m id=some B∧m1 id=some B∧B.owned=true) (hbx:∀id∈bx,some id∈os) (O8:bx.map g.ids=Jo.map some)
  (hp:N8 w PG (Ht UN)) (h0:∀b,g1.IV b→PG b)
  (hsz:w.heap.size≤w'.heap.size) (Nt:∀b,b<w.heap.size→b∉Ht UN→w'.heap[b]? = w.heap[b]?)
  (i1:∀b,g1.IV b→I b) (i2:∀b,I b→Jg b) (i3:∀b,I b→g1.IV b∨b∈Ht UN∨w.heap.size≤b) (i4:∀b,Jg b→b<w'.heap.size)
  (hp':N8 w' Jg (Ht Jo++Ht J9)) (hin:∀b∈Ht Jo++Ht J9,b∈Ht UN∨w.heap.size≤b)
  (hbs:Og (g.back c J9 I) w' c J9.length bx bs):Je own (g.back c J9 I) w' (Kc m1 (nones (Kh os)++blks bs)):=by
 subst anz
 have hno:∀{b:Nat},b∈Ht (os.map (J7 g))→∃id B,some id∈os∧g.blk id b∧m id=some B∧m1 id=some B∧B.owned=true:=by intro b hb;obtain⟨id,h1,h2⟩:=bC.1 hb;obtain⟨B,k1,k2,k3⟩:=hos id h1;exact⟨id,B,h1,h2,k1,k2,k3⟩
 have hkeys:∀id,id∈bs.map (·.1)→(c≤id∧id<c+J9.length)∨id∈bx:=by
  intro id hid;obtain⟨p,hp,rfl⟩:=Ot.1 hid;obtain⟨_,_,⟨j,k1,k2⟩ | k⟩:=hbs p hp
  ·exact .inl ⟨by omega,by omega⟩
  ·exact .inr k
 have hout:∀{id:Nat},g.ids id≠none→¬ (c≤id∧id<c+J9.length):=by
  intro id h hc
  exact h (by have:=hfr (id - c) (by omega);rwa [QdO hc.1]at this)
 have hsame:∀id,¬ (id∈Kh os∨(c≤id∧id<c+J9.length))→∀B,Kc m1 (nones (Kh os)++blks bs) id=some B→m1 id=some B:=by
  intro id hid B hB;rw[cp]at hB
  ·exact hB
  ·intro hk;simp only[SL,Mi]at hk;rcases hk with hk | hk
   ·simp only[nones,List.map_map,Ot,Function.comp]at hk;obtain⟨x,h1,h2⟩:=hk;subst h2;exact hid (.inl h1)
   ·have:id∈bs.map (·.1):=by simpa[blks,Function.comp_def]using hk
    rcases hkeys id this with h | h
    ·exact hid (.inr h)
    ·exact hid (.inl (dh.2 (hbx id h)))
 have hnotin:∀{id:Nat}{B:Jw F}{b:Nat},id∉Kh os→m1 id=some B→B.owned=true→g.blk id b→b∉Ht (os.map (J7 g))∧b<w.heap.size:=by
  intro id B b hid hB ho hb
  have hb1:g1.blk id b:=by obtain⟨b0,q,hq,hbb⟩:=hb;exact⟨b0,q,by rw[Xz];exact hq,hbb⟩
  refine⟨λhin=>?_,(hm1.ok id B hB).place hm1.IV (Jw.MQ ho) hb1⟩;obtain⟨id',B',k1,k2,k3,k4,k5⟩:=hno hin
  have hb2:g1.blk id' b:=by obtain⟨b0,q,hq,hbb⟩:=k2;exact⟨b0,q,by rw[Xz];exact hq,hbb⟩
  have:=hm1.Ou id id' B B' b hB k4 ho k5 hb1 hb2;subst this;exact hid (dh.2 k1)
 have hblk:∀{id b:Nat},¬ (c≤id∧id<c+J9.length)→(g.back c J9 I).blk id b→g.blk id b:=by rintro id b h ⟨b0,q,hq,hbb⟩;rw[cy h]at hq;exact⟨b0,q,hq,hbb⟩
 refine hm1.Ml (S:=λid=>id∈Kh os∨(c≤id∧id<c+J9.length)) ⟨?_,i1,?_,λb hb=>(show g.len b by rw[← h1l];exact hb),λb hb=>Nt b (hm1.len b hb).2 (λhin=>by obtain⟨id,B,_,q2,q3,_,q5⟩:=hno hin;exact(hm1.len b hb).1 (hm.own id B b q3 q5 q2).1)⟩ hsame ?_ ?_ ?_ (λb hb=>i4 b (i2 b hb)) ?_ (λb hb=>⟨(hm.len b hb).1,OZ (hm.len b hb).2 hsz⟩)
 ·intro id r hr;rw[Xz]at hr
  rw[cy (hout (by rw[hr];simp))]
  exact hr
 ·intro b hb;exact Nt b (hm1.IV b hb) (λhin=>hp.IV b hin (h0 b hb))
 ·intro id hid;rw[cy (λh=>hid (.inr h)),Xz]
 ·intro id B b hid hB ho hb
  have hb':g.blk id b:=by obtain⟨b0,q,hq,hbb⟩:=hb;exact⟨b0,q,by rw[← Xz];exact hq,hbb⟩
  obtain⟨k1,k2⟩:=hnotin (λh=>hid (.inl h)) hB ho hb';refine⟨Nt b k2 k1,λhI=>?_⟩;rcases i3 b hI with h | h | h
  ·exact(hm1.own id B b hB ho hb).2 h
  ·exact k1 h
  ·omega
 ·intro id B hid hB
  have hmem:(id,B)∈bs:=by
   rw[dC]at hB;rcases rZ hB with h | ⟨h1,h2⟩
   ·exact h
   ·exfalso;by_cases Xx:id∈Kh os
    ·rw[uS Xx]at h2;cases h2
    ·rcases hid with h | h
     ·exact Xx h
     ·rw[cp]at h2
      ·refine(hm1.ok id B h2).named ?_;rw[Xz]
       have:=hfr (id - c) (by omega)
       rwa [QdO h.1]at this
      ·simpa[nones,Function.comp_def]using Xx
  obtain⟨ho,hok,hwh⟩:=hbs _ hmem;refine⟨hok,λb _ hb=>?_⟩
  have loc:∀{x:Nat},((c≤x∧x<c+J9.length)∨x∈bx)→(g.back c J9 I).blk x b→((c≤x∧x<c+J9.length)∧∃b0 q,J9[x - c]? = some (some (b0,q))∧b∈b0::Km q.2.2)∨(x∈bx∧g.blk x b∧b∈Ht Jo):=by
   intro x hx hxb;by_cases hr:c≤x∧x<c+J9.length
   ·obtain⟨b0,q,hq,hbb⟩:=hxb;simp only[G.back]at hq;rw[if_pos hr]at hq;exact .inl ⟨hr,b0,q,hq,hbb⟩
   ·have hxx:=hx.resolve_left hr;have hb':=hblk hr hxb;obtain⟨q,hq1,hq2⟩:=i_ O8 hxx;obtain⟨b0,q',hq',hbb⟩:=hb';rw[hq2]at hq';cases hq';exact .inr ⟨hxx,⟨b0,_,hq2,hbb⟩,qJ hq1 hbb⟩
  have ab4:(c≤id∧id<c+J9.length)∨id∈bx:=by
   rcases hwh with⟨j,k1,k2⟩ | k
   ·exact .inl ⟨by simp only at k1;omega,by simp only at k1;omega⟩
   ·exact .inr k
  have hL:b∈Ht Jo++Ht J9:=by
   rcases loc ab4 hb with⟨_,b0,q,hq,hbb⟩ | ⟨_,_,h⟩
   ·exact WC _ (bO.2 ⟨_,b0,q,hq,hbb⟩)
   ·exact WA _ h
  refine⟨?_,λhI=>hp'.IV b hL (i2 b hI),?_⟩
  ·rcases hin b hL with h | h
   ·obtain⟨id',B',k1,k2,k3,k4,k5⟩:=hno h;exact(hm.own id' B' b k3 k5 k2).1
   ·exact hall b h
  ·intro id' B' hB' ho' hb';by_cases hs:id'∈Kh os∨(c≤id'∧id'<c+J9.length)
   ·have hmem':(c≤id'∧id'<c+J9.length)∨id'∈bx:=by
     rw[dC]at hB';rcases rZ hB' with h | ⟨h1,h2⟩
     ·exact hkeys id' (Ot.2 ⟨_,h,rfl⟩)
     ·by_cases Xx:id'∈Kh os
      ·rw[uS Xx]at h2;cases h2
      ·exact .inl (hs.resolve_left Xx)
    have hnd:=Wz.1 hp'.nodup;rcases loc ab4 hb with⟨r1,c1,q1,e1,d1⟩ | ⟨r1,e1,f1⟩
    ·rcases loc hmem' hb' with⟨r2,c2,q2,e2,d2⟩ | ⟨r2,e2,f2⟩
     ·have:=iI hnd.2.1 e1 d1 e2 d2;omega
     ·exact absurd rfl (hnd.2.2 b f2 b (bO.2 ⟨_,c1,q1,e1,d1⟩))
    ·rcases loc hmem' hb' with⟨r2,c2,q2,e2,d2⟩ | ⟨r2,e2,f2⟩
     ·exact absurd rfl (hnd.2.2 b f1 b (bO.2 ⟨_,c2,q2,e2,d2⟩))
     ·obtain⟨B1,k1,_,k2⟩:=hos id (hbx id r1);obtain⟨B2,l1,_,l2⟩:=hos id' (hbx id' r2);exact(hm.Ou id id' B1 B2 b k1 l1 k2 l2 e1 e2).symm
   ·exfalso;have hB0:=hsame id' hs B' hB';obtain⟨k1,k2⟩:=hnotin (λh=>hs (.inl h)) hB0 ho' (hblk (λh=>hs (.inr h)) hb');rcases hin b hL with h | h
    ·exact k1 h
    ·omega
 ·intro b hI;rcases i3 b hI with h | h | h
  ·exact hm1.io b h
  ·obtain⟨id',B',k1,k2,k3,k4,k5⟩:=hno h;exact .inr (hm.own id' B' b k3 k5 k2).1
  ·exact .inr (hall b h)
def G.RO(c:Nat)(Ja:List Pl)(I:Nat→Prop):G:=⟨λx=>if c≤x then Ja[x - c]? else none,I,λ_=>False⟩
theorem u7{Ja:List Pl}{I:Nat→Prop}:Mx (G.RO c Ja I) c Ja:=by
 intro j pl hj;simp only[G.RO]
 rw[if_pos (by omega),WV]
 exact hj
theorem xN{I:Nat→Prop}{ow:List Nat}{ds:List (ND F)}{k c:Nat}{vs:List Value}{Ja:List Pl}(h:J8 w I ow k ds vs Ja):(LX ow k c ds).2.2=c+Ja.length:=
 (iH (g:=G.RO c Ja I) h u7).2.2.2.1
theorem cA{I:Nat→Prop}{k:Kd}{x:k.El F}{v:Value}{Ja:List Pl}{Jo:List Pl}(h:Held P w I k x v Ja Jo):(Mk k x c).2.2=c+Ja.length:=
 (cg (g:=G.RO c Ja I) h u7).2.2
theorem co{I:Nat→Prop}:∀{ks:List Kd}{a:TL F ks}{vs:List Value}{Jo:List Pl} {Ja:List Pl} {bx:List Nat} {c:Nat},bF P w I ks a vs Jo Ja→bx.length=Jo.length→(ap ks a bx c).2.2=c+Ja.length
 | [],a,vs,Jo,Ja,bx,c,h,hb=>by obtain⟨rfl,rfl,rfl⟩:=h;rfl
 | [.box t ow],a,vs,Jo,Ja,bx,c,h,hb=>by
  obtain⟨b,rfl,rfl,arr,e,h1,h2⟩:=h
  match bx,hb with
  | i::bx,hb=>simp only[ap];exact xN h2
 | [.row t arr],a,vs,Jo,Ja,bx,c,h,hb=>by
  obtain⟨pl,rfl,rfl,_,rfl⟩:=h
  match bx,hb with
  | i::bx,hb=>rfl
 | .row t arr::l::ks,a,vs,Jo,Ja,bx,c,h,hb=>by
  obtain⟨pl,Np,rfl,_,h2⟩:=h
  match bx,hb with
  | i::bx,hb=>
   simp only[ap]
   rw[co h2 (by simpa using hb)]
 | [.v t ow],a,vs,Jo,Ja,bx,c,h,hb=>by obtain⟨v,rfl,rfl,h⟩:=h;simp only[ap];exact cA h
 | [.cl f n],a,vs,Jo,Ja,bx,c,h,hb=>by obtain⟨v,rfl,rfl,h⟩:=h;exact h.elim
 | .cl f n::l::ks,a,vs,Jo,Ja,bx,c,h,hb=>by obtain⟨v,vs',p1,p2,rfl,rfl,h1,h2⟩:=h;exact h1.elim
 | [.rp t],a,vs,Jo,Ja,bx,c,h,hb=>by obtain⟨v,rfl,rfl,h⟩:=h;simp only[ap];exact cA h
 | [.OU t],a,vs,Jo,Ja,bx,c,h,hb=>by obtain⟨v,rfl,rfl,h⟩:=h;simp only[ap];exact cA h
 | [.pk k0 t],a,vs,Jo,Ja,bx,c,h,hb=>by obtain⟨v,rfl,rfl,h⟩:=h;simp only[ap];exact cA h
 | [.ln t],a,vs,Jo,Ja,bx,c,h,hb=>by obtain⟨v,rfl,rfl,h⟩:=h;simp only[ap];exact cA h
 | [.nb t ow],a,vs,Jo,Ja,bx,c,h,hb=>by obtain⟨v,rfl,rfl,h⟩:=h;simp only[ap];exact cA h
 | [.fn ks r],a,vs,Jo,Ja,bx,c,h,hb=>by obtain⟨v,rfl,rfl,h⟩:=h;simp only[ap];exact cA h
 | .box t ow::l::ks,a,vs,Jo,Ja,bx,c,h,hb=>by
  obtain⟨b,Np,p1,p2,rfl,rfl,⟨arr,e,h0,h1⟩,h2⟩:=h
  match bx,hb with
  | i::bx,hb=>
   simp only[ap]
   rw[xN h1,co h2 (by simpa using hb),IT];omega
 | .v t ow::l::ks,a,vs,Jo,Ja,bx,c,h,hb=>by obtain⟨v,vs',p1,p2,rfl,rfl,h1,h2⟩:=h;simp only[ap];rw[cA h1,co h2 hb,IT];omega
 | .rp t::l::ks,a,vs,Jo,Ja,bx,c,h,hb=>by obtain⟨v,vs',p1,p2,rfl,rfl,h1,h2⟩:=h;simp only[ap];rw[cA h1,co h2 hb,IT];omega
 | .OU t::l::ks,a,vs,Jo,Ja,bx,c,h,hb=>by obtain⟨v,vs',p1,p2,rfl,rfl,h1,h2⟩:=h;simp only[ap];rw[cA h1,co h2 hb,IT];omega
 | .pk k0 t::l::ks,a,vs,Jo,Ja,bx,c,h,hb=>by obtain⟨v,vs',p1,p2,rfl,rfl,h1,h2⟩:=h;simp only[ap];rw[cA h1,co h2 hb,IT];omega
 | .ln t::l::ks,a,vs,Jo,Ja,bx,c,h,hb=>by obtain⟨v,vs',p1,p2,rfl,rfl,h1,h2⟩:=h;simp only[ap];rw[cA h1,co h2 hb,IT];omega
 | .nb t ow::l::ks,a,vs,Jo,Ja,bx,c,h,hb=>by obtain⟨v,vs',p1,p2,rfl,rfl,h1,h2⟩:=h;simp only[ap];rw[cA h1,co h2 hb,IT];omega
 | .fn ks' r::l::ks,a,vs,Jo,Ja,bx,c,h,hb=>by obtain⟨v,vs',p1,p2,rfl,rfl,h1,h2⟩:=h;simp only[ap];rw[cA h1,co h2 hb,IT];omega
theorem ww(hm:Je own g w m)(hm1:Je own g1 w m1)(Xz:g1.ids=g.ids)(h1l:g1.len=g.len)(hgi:∀b,g.IV b→g1.IV b)(hall:∀b,w.heap.size≤b→own.o b){u:Nat→Bool}(hd:∀id,u id=false→g.ids id=none)
  {os:List (Option Nat)} {bx:List Nat} {Jo:List Pl} {J9:List Pl} {PG Jg I:Nat→Prop} {w':World} {MU:List Value} {ks:List Kd} {r:TL F ks}
  (hfr:∀k,k<(ap ks r bx c).2.2 - c→u (c+k)=false)
  (hos:∀id,some id∈os→∃B,m id=some B∧m1 id=some B∧B.owned=true) (hbx:∀id∈bx,some id∈os) (O8:bx.map g.ids=Jo.map some)
  (hp:N8 w PG (Ht (os.map (J7 g)))) (h0:∀b,g1.IV b→PG b)
  (e1:w'.os=w.os) (e2:w'.tape=w.tape) (e3:w'.output=w.output) (e4:w.drawn≤w'.drawn)
  (hsz:w.heap.size≤w'.heap.size) (Nt:∀b,b<w.heap.size→b∉Ht (os.map (J7 g))→w'.heap[b]? = w.heap[b]?)
  (i1:∀b,g1.IV b→I b) (i2:∀b,I b→Jg b) (i3:∀b,I b→g1.IV b∨b∈Ht (os.map (J7 g))∨w.heap.size≤b) (i4:∀b,Jg b→b<w'.heap.size)
  (hp':N8 w' Jg (Ht Jo++Ht J9)) (hin:∀b∈Ht Jo++Ht J9,b∈Ht (os.map (J7 g))∨w.heap.size≤b)
  (hout:bF P w' I ks r MU Jo J9) :
  ∃g',Jr P g' w' (SS (ap ks r bx c).1) (Px MU)∧Je own g' w' (Kc m1 (nones (Kh os)++blks (ap ks r bx c).2.1))∧Stp m g w g' w'∧∀id,u id=false→(id<c∨c+((ap ks r bx c).2.2 - c)≤id)→g'.ids id=none:=by
 have hlen:bx.length=Jo.length:=by simpa using congrArg List.length O8
 have hcnt:=co (c:=c) hout hlen
 have Td:∀k,k<J9.length→g.ids (c+k)=none:=λk hk=>hd _ (hfr k (by rw[hcnt];omega))
 have hnot:∀{id:Nat},g.ids id≠none→¬ (c≤id∧id<c+J9.length):=by
  intro id h hc
  exact h (by have:=Td (id - c) (by omega);rwa [QdO hc.1]at this)
 have V9:bx.map (g.back c J9 I).ids=Jo.map some:=by
  rw[← O8];refine QdP λid hid=>?_;obtain⟨q,_,hq⟩:=i_ O8 hid
  exact cy (hnot (by rw[hq];simp))
 obtain⟨k1,k2,k3⟩:=df (g:=g.back c J9 I) (c:=c) (bx:=bx) hout sK V9
 refine⟨g.back c J9 I,AB k1,qO hm hm1 Xz h1l hall rfl Td hos hbx O8 hp h0 hsz Nt i1 i2 i3 i4 hp' hin k2,⟨⟨?_,λb hb=>i1 b (hgi b hb),?_,λ_ h=>h,λb hb=>Nt b (hm.len b hb).2 (λhin=>by obtain⟨id,h1,h2⟩:=bC.1 hin;obtain⟨B,l1,_,l2⟩:=hos id h1;exact(hm.len b hb).1 (hm.own id B b l1 l2 h2).1)⟩,e1,e2,e3,hsz,?_,e4⟩,?_⟩
 ·intro id q hq
  rw[cy (hnot (by rw[hq];simp))]
  exact hq
 ·intro b hb;exact Nt b (hm.IV b hb) (λhin=>hp.IV b hin (h0 b (hgi b hb)))
 ·intro b hb hno;refine Nt b hb (λhin=>?_);obtain⟨id,h1,h2⟩:=bC.1 hin;obtain⟨B,l1,_,l2⟩:=hos id h1;exact hno id B l1 l2 h2
 ·intro id hu hw
  rw[cy (by rw[hcnt]at hw;omega)]
  exact hd id hu
theorem BJ(hΓ : Kr P Γ)(hm:Je own g w m)(hle:M6 mm m){u:Nat→Bool}(hd:∀id,u id=false→g.ids id=none)(hall:∀b,w.heap.size≤b→own.o b)
  {f:FuncId} {args:List (Dat F)} {vs:List Value} (hr:Kl P g w args vs) {sp:Spec F} (hsp:look Γ f=some sp) {p:Pk (HL F sp.ks)} (hp:gJ Γ mm sp.ks (cond ((outs sp).all (Kd.KD F)) (args.map RU) args)=some p)
  (hnd:cD (Kh p.os)=true) (hdj:Ny (Kh p.os) p.fz=true) {r:TL F (outs sp)} (hD:sp.D p.x=some r)
  (hfr:∀k,k<(ap (outs sp) r p.bx c).2.2 - c→u (c+k)=false) (hrun:(execOp a.eval o).run P w = .ok (.enter f ⟨vs⟩) w) :
  M0 P own m u g w o a c { val:=SS (ap (outs sp) r p.bx c).1,mw:=(if(outs sp).all (Kd.KD F)then[]else SK mm p.fz)++nones (Kh p.os)++blks (ap (outs sp) r p.bx c).2.1,nu:=(ap (outs sp) r p.bx c).2.2 - c }:=by
 have pre:∀{ZL:Ow}{g2:G}(hm2:Je ZL g2 w m)(Lm:g2.ids=g.ids),Kl P g2 w (cond ((outs sp).all (Kd.KD F)) (args.map RU) args) vs→∃Jo,bR P w (g2.Nj p.fz).IV sp.ks p.x vs (p.os.map (J7 g)) Jo∧p.bx.map g.ids=Jo.map some∧(∀id∈p.bx,some id∈p.os)∧
   (∀id,some id∈p.os→∃B,m id=some B∧B.owned=true)∧Je ZL (g2.Nj p.fz) w (Kc m (SK mm p.fz))∧(∀id,some id∈p.os→∃B,m id=some B∧Kc m (SK mm p.fz) id=some B∧B.owned=true)∧N8 w (g2.Nj p.fz).IV (Ht (p.os.map (J7 g))):=by
  intro ZL g2 hm2 Lm hr2;have hfz:O6 g2 p.fz (g2.Nj p.fz).IV:=⟨λ_ h=>.inl h,λid hid b hb=>.inr ⟨id,hid,hb⟩⟩;obtain⟨Jo,k1,k2,k3,k4,k5⟩:=lY hΓ hm2 hle hp hfz hr2
  have hown:∀id,some id∈p.os→∃B,m id=some B∧B.owned=true:=λid hid=>by obtain⟨B,h1,h2⟩:=k4 id hid;exact⟨B,hle _ _ h1,h2⟩
  have PK:=freeze hm2 hle k3
  have hown1:∀id,some id∈p.os→∃B,m id=some B∧Kc m (SK mm p.fz) id=some B∧B.owned=true:=λid hid=>by
   obtain⟨B,h1,h2⟩:=hown id hid
   exact⟨B,h1,by rw[fV,if_neg (jK hdj id (dh.2 hid))];exact h1,h2⟩
  have hpo:J7 g2=J7 g:=by
   funext o
   cases o with
   | none=>rfl
   | some i=>simp only[J7,Lm]
  have hbk:∀id b,g2.blk id b↔g.blk id b:=λid b=>by unfold G.blk;rw[Lm]
  rw[hpo]at k1;rw[Lm]at k2;refine⟨Jo,k1,k2,k5,hown,PK,hown1,eZ hm (eB hnd) hown,?_,?_⟩
  ·intro b hb hi;obtain⟨id,h1,h2⟩:=bC.1 hb;obtain⟨B,_,h3,h4⟩:=hown1 id h1;exact(PK.own id B b h3 h4 ((hbk id b).2 h2)).2 hi
  ·intro b hb;obtain⟨id,h1,h2⟩:=bC.1 hb;obtain⟨B,h3,h4⟩:=hown id h1;exact(hm.ok id B h3).place hm.IV (Jw.MQ h4) h2
 obtain⟨hent,hfn⟩:=hΓ f sp hsp;intro next Q hn;unfold Oper.wp;rw[hrun]
 cases hfl:(outs sp).all (Kd.KD F)with
 | true=>
  rw[hfl]at pre;obtain⟨Jo,k1,k2,k5,hown,PK,hown1,hpl⟩:=pre hm.lf rfl (wM hr);refine(hfn p.x r hD _ w vs _ Jo k1 hpl PK.IV).mono ?_;rintro e w' ⟨MU,Jg,J9,rfl,e1,e2,e3,edr,e4,e5,e6,e7,e8,e9,e10,e11⟩
  obtain⟨g',q1,q2,q3,q4⟩:=ww (I:=g.IV) hm hm rfl rfl (λ_ h=>h) hall hd hfr (λid hid=>by obtain⟨B,h1,h2⟩:=hown id hid;exact⟨B,h1,h1,h2⟩) k5 k2 hpl (λb h=>.inl (.inl h)) e1 e2 e3 edr e4 e5
   (λ_ h=>h) (λb h=>e6 b (.inl (.inl h))) (λb h=>.inl h) e8 e10 e11 (rS hfl e9)
  refine hn _ w' g' q1 ?_ q3 q4;simpa[hfl]using q2
 | false=>
  rw[hfl]at pre;obtain⟨Jo,k1,k2,k5,hown,PK,hown1,hpl⟩:=pre hm rfl hr;refine(hfn p.x r hD _ w vs _ Jo k1 hpl PK.IV).mono ?_;rintro e w' ⟨MU,Jg,J9,rfl,e1,e2,e3,edr,e4,e5,e6,e7,e8,e9,e10,e11⟩;obtain⟨g',q1,q2,q3,q4⟩:=ww (I:=Jg) hm PK rfl rfl (λb h=>.inl h) hall hd hfr hown1 k5 k2 hpl (λb h=>h) e1 e2 e3 edr e4 e5
   e6 (λb h=>h) e7 e8 e10 e11 e9
  refine hn _ w' g' q1 ?_ q3 q4;simp only[hfl,Nb,if_false,MF];rw[dC];exact q2
theorem AJ{g:G}{I:Nat→Prop}{ks:List Nat}{c:Ko F}{v:Value}(h:Jz g w c v):Jz (F:=F) ⟨g.ids,I,g.len⟩ w (fgC ks c) v:=by
 cases c with
 | im d=>
  simp only[fgC]
  cases hd:d.flat with
  | true=>cases h with | im h=>exact .im (h.flat hd)
  | false=>exact .one (h.oneCell (by simp))
 | KP id=>
  simp only[fgC]
  cases hk:Jp id ks with
  | false=>exact .one (h.oneCell (by simp))
  | true=>
   cases h with
   | ML p h=>exact .ML p h
   | KP h hl hm=>exact .KP h hl hm
 | any=>exact .any
 | _=>exact .one (h.oneCell (by simp))
theorem Hp{g:G}{I:Nat→Prop}{ks:List Nat}{d:Dat F}{v:Value}(h:Jr P g w d v):Jr P ⟨g.ids,I,g.len⟩ w (fgD ks d) v:=by
 cases h with
 | c h=>exact .c (AJ h)
 | agg hl h=>
  refine .agg (by rw[Ox];exact hl) λk c x a b=>?_
  rw[MN]at a;obtain⟨c0,h0,rfl⟩:=RF.1 a;exact AJ (h k c0 x h0 b)
 | _=>exact .c .any
theorem D9{g:G}{I:Nat→Prop}{ks:List Nat}{ds:List (Dat F)}{vs:List Value}(h:Kl P g w ds vs):Kl P ⟨g.ids,I,g.len⟩ w (ds.map (fgD ks)) vs:=by
 refine⟨by rw[Ox];exact h.1,λk d x a b=>?_⟩
 rw[MN]at a;obtain⟨c0,h0,rfl⟩:=RF.1 a;exact Hp (h.2 k c0 x h0 b)
theorem Ej{g:G}{I:Nat→Prop}{c n:Nat}{bx:List Nat}{bs:List (Nat×Jw F)}(h:Og g w c n bx bs):Og ⟨g.ids,I,g.len⟩ w c n bx (bs.filter UW):=by
 intro p hp;obtain⟨h1,h2⟩:=WR.1 hp;obtain⟨k1,k2,k3⟩:=h p h1;refine⟨k1,?_,k3⟩;obtain⟨id,B⟩:=p
 cases B with
 | row t l=>
  simp only[UW]at h2;rcases k2 with k2 | ⟨b,cap,cur,e,q1,q2,q3,q4,q5,q6⟩
  ·exact .inl k2
  ·exact .inr ⟨b,cap,cur,e,q1,q2,q3,q4,q5,λk d x a b=>(q6 k d x a b).flat (vD h2 d (Rk a))⟩
 | _=>simp[UW]at h2
theorem Ba(hm:Je own g w m)(hall:∀b,w.heap.size≤b→own.o b){u:Nat→Bool}(hd:∀id,u id=false→g.ids id=none)
  {os:List (Option Nat)} {bx:List Nat} {Jo:List Pl} {J9:List Pl} {PG Jg:Nat→Prop} {w':World} {MU:List Value} {ks:List Kd} {r:TL F ks}
  (hfr:∀k,k<(ap ks r bx c).2.2 - c→u (c+k)=false)
  (hos:∀id,some id∈os→∃B,m id=some B∧B.owned=true) (hbx:∀id∈bx,some id∈os) (O8:bx.map g.ids=Jo.map some)
  (hp:N8 w PG (Ht (os.map (J7 g)))) (h0:∀b,g.IV b→PG b)
  (e1:w'.os=w.os) (e2:w'.tape=w.tape) (e3:w'.output=w.output) (e4:w.drawn≤w'.drawn)
  (hsz:w.heap.size≤w'.heap.size) (Nt:∀b,b<w.heap.size→b∉Ht (os.map (J7 g))→w'.heap[b]? = w.heap[b]?)
  (i2:∀b,g.IV b→Jg b) (i4:∀b,Jg b→b<w'.heap.size)
  (hp':N8 w' Jg (Ht Jo++Ht J9)) (hin:∀b∈Ht Jo++Ht J9,b∈Ht (os.map (J7 g))∨w.heap.size≤b)
  (hout:bF P w' Jg ks r MU Jo J9) :
  ∃g',Jr P g' w' (SS ((ap ks r bx c).1.map (fgD (((ap ks r bx c).2.1.filter UW).map (·.1))))) (Px MU)∧Je own g' w' (Kc m (nones (Kh os)++blks ((ap ks r bx c).2.1.filter UW)))∧Stp m g w g' w'∧∀id,u id=false→(id<c∨c+((ap ks r bx c).2.2 - c)≤id)→g'.ids id=none:=by
 have hlen:bx.length=Jo.length:=by simpa using congrArg List.length O8
 have hcnt:=co (c:=c) hout hlen
 have Td:∀k,k<J9.length→g.ids (c+k)=none:=λk hk=>hd _ (hfr k (by rw[hcnt];omega))
 have hnot:∀{id:Nat},g.ids id≠none→¬ (c≤id∧id<c+J9.length):=by
  intro id h hc
  exact h (by have:=Td (id - c) (by omega);rwa [QdO hc.1]at this)
 have V9:bx.map (g.back c J9 Jg).ids=Jo.map some:=by
  rw[← O8];refine QdP λid hid=>?_;obtain⟨q,_,hq⟩:=i_ O8 hid
  exact cy (hnot (by rw[hq];simp))
 obtain⟨k1,k2,k3⟩:=df (g:=g.back c J9 Jg) (c:=c) (bx:=bx) hout sK V9;have k1':Kl P (g.back c J9 g.IV) w' ((ap ks r bx c).1.map (fgD (((ap ks r bx c).2.1.filter UW).map (·.1)))) MU:=D9 k1;have k2':Og (g.back c J9 g.IV) w' c J9.length bx ((ap ks r bx c).2.1.filter UW):=Ej k2
 refine⟨g.back c J9 g.IV,AB k1',qO hm hm rfl rfl hall rfl Td (λid hid=>by obtain⟨B,h1,h2⟩:=hos id hid;exact⟨B,h1,h1,h2⟩) hbx O8 hp h0 hsz Nt (λ_ h=>h) i2 (λb h=>.inl h) i4 hp' hin k2',⟨⟨?_,λb hb=>hb,?_,λ_ h=>h,λb hb=>Nt b (hm.len b hb).2 (λhin=>by obtain⟨id,h1,h2⟩:=bC.1 hin;obtain⟨B,l1,l2⟩:=hos id h1;exact(hm.len b hb).1 (hm.own id B b l1 l2 h2).1)⟩,e1,e2,e3,hsz,?_,e4⟩,?_⟩
 ·intro id q hq
  rw[cy (hnot (by rw[hq];simp))]
  exact hq
 ·intro b hb;exact Nt b (hm.IV b hb) (λhin=>hp.IV b hin (h0 b hb))
 ·intro b hb hno;refine Nt b hb (λhin=>?_);obtain⟨id,h1,h2⟩:=bC.1 hin;obtain⟨B,l1,l2⟩:=hos id h1;exact hno id B l1 l2 h2
 ·intro id hu hw
  rw[cy (by rw[hcnt]at hw;omega)]
  exact hd id hu
theorem BR(hΓ : Kr P Γ)(hm:Je own g w m)(hle:M6 mm m){u:Nat→Bool}(hd:∀id,u id=false→g.ids id=none)(hall:∀b,w.heap.size≤b→own.o b)
  {f:FuncId} {args:List (Dat F)} {vs:List Value} (hr:Kl P g w args vs) {sp:Spec F} (hsp:look Γ f=some sp) {p:Pk (HL F sp.ks)} (hp:gJ Γ mm sp.ks (args.map RU)=some p)
  (hnd:cD (Kh p.os)=true) (hdj:Ny (Kh p.os) p.fz=true) {r:TL F (outs sp)} (hD:sp.D p.x=some r)
  (hfr:∀k,k<(ap (outs sp) r p.bx c).2.2 - c→u (c+k)=false) (hrun:(execOp a.eval o).run P w = .ok (.enter f ⟨vs⟩) w) :
  M0 P own m u g w o a c { val:=SS ((ap (outs sp) r p.bx c).1.map (fgD (((ap (outs sp) r p.bx c).2.1.filter UW).map (·.1)))),mw:=nones (Kh p.os)++blks ((ap (outs sp) r p.bx c).2.1.filter UW),nu:=(ap (outs sp) r p.bx c).2.2 - c }:=by
 have hm2:=hm.lf;have hr2:=wM hr;have hfz:O6 g.lf p.fz (g.lf.Nj p.fz).IV:=⟨λ_ h=>.inl h,λid hid b hb=>.inr ⟨id,hid,hb⟩⟩;obtain⟨Jo,k1,k2,k3,k4,k5⟩:=lY hΓ hm2 hle hp hfz hr2
 have hown:∀id,some id∈p.os→∃B,m id=some B∧B.owned=true:=λid hid=>by obtain⟨B,h1,h2⟩:=k4 id hid;exact⟨B,hle _ _ h1,h2⟩
 have PK:=freeze hm2 hle k3
 have hpo:J7 g.lf=J7 g:=by
  funext o
  cases o with
  | none=>rfl
  | some i=>rfl
 rw[hpo]at k1
 have hpl:N8 w (g.lf.Nj p.fz).IV (Ht (p.os.map (J7 g))):=by
  refine⟨eZ hm (eB hnd) hown,?_,?_⟩
  ·intro b hb hi;obtain⟨id,h1,h2⟩:=bC.1 hb;obtain⟨B,h3,h4⟩:=hown id h1
   have h3':Kc m (SK mm p.fz) id=some B:=by rw[fV,if_neg (jK hdj id (dh.2 h1))];exact h3
   exact(PK.own id B b h3' h4 h2).2 hi
  ·intro b hb;obtain⟨id,h1,h2⟩:=bC.1 hb;obtain⟨B,h3,h4⟩:=hown id h1;exact(hm.ok id B h3).place hm.IV (Jw.MQ h4) h2
 obtain⟨hent,hfn⟩:=hΓ f sp hsp;intro next Q hn;unfold Oper.wp;rw[hrun];refine(hfn p.x r hD _ w vs _ Jo k1 hpl PK.IV).mono ?_;rintro e w' ⟨MU,Jg,J9,rfl,e1,e2,e3,edr,e4,e5,e6,e7,e8,e9,e10,e11⟩;obtain⟨g',q1,q2,q3,q4⟩:=Ba hm hall hd hfr hown k5 k2 hpl (λb h=>.inl (.inl h)) e1 e2 e3 edr e4 e5
  (λb h=>e6 b (.inl (.inl h))) e8 e10 e11 e9
 exact hn _ w' g' q1 (by simpa using q2) q3 q4
end
set_option linter.unusedVariables false
set_option linter.unusedSimpArgs false
section
variable{F:Fam}{P:Program}{T:TypeId→Option (TI F)}{Γ : Ctx F}{o:Oper}{vals:List (Dat F)}{mm:Nat→Option (Jw F)}{c:Nat}{R:Type}{K:Oq F→Option R}
variable{own:Ow}{g:G}{w:World}{m:Nat→Option (Jw F)}{u:Nat→Bool}{a:Act}
theorem A7(hm:Je own g w m)(hd:∀id,u id=false→g.ids id=none)(hall:∀b,w.heap.size≤b→own.o b)(hfr:u c=false){ob:Obj}{B:Jw F}{d:Dat F}{v:Value}
  (hv:∀g' w',g'.ids c=some (some (w.heap.size,0,0,[]))→Jr P g' w' d v)
  (hB:∀g' w',Le g w g' w'→g'.ids c=some (some (w.heap.size,0,0,[]))→w'.heap[w.heap.size]? = some ob→KL g' w' c B)
  (hrun:(execOp a.eval o).run P w = .ok (.value v) (w.alloc ob)):M0 P own m u g w o a c { val:=d,mw:=[(c,some B)],nu:=1 }:=by
 have hf:g.ids c=none:=hd c hfr;have hold:∀b,b<w.heap.size→(w.alloc ob).heap[b]? = w.heap[b]?:=λb hb=>heap_alloc_old w ob b hb;have hnew:(w.alloc ob).heap[w.heap.size]? = some ob:=heap_alloc_new w ob
 obtain⟨k1,k2⟩:=fT (rm:=[]) (pl:=some (w.heap.size,0,0,[])) (B:=B) hm hf (w':=w.alloc ob) (by
  intro b0 c e b hb;cases e;simp only[Km,IU]at hb;subst hb
  exact .inl ⟨Ku _,by rw[World.size_alloc];omega,hall _ (Ku _)⟩) rfl rfl rfl (Ku _) (by rw[World.size_alloc];omega) (λb hb _=>hold b hb) (λg' hle hi=>hB g' _ hle hi hnew)
 intro next Q hn;unfold Oper.wp;rw[hrun];refine hn _ _ (g.name c (some (w.heap.size,0,0,[]))) (hv _ _ (a9 _ _ _)) k1 k2 ?_;intro x hu hx;have hx:x<c∨c+1≤x:=hx
 have:x≠c:=by omega
 rw[bE _ _ _ this];exact hd x hu
theorem ul{t:TypeId}{k v:TypeId}{tt:Ty}(h:P8 T t=some (k,v,tt)):∃ti,T t=some ti∧ti.desc = .map k v∧tt.KS=true:=by
 unfold P8 at h;split at h
 ·rename_i k' v' _ _ _ O5 _ ht
  cases hm:O5.KS with
  | false=>rw[hm]at h;cases h
  | true=>rw[hm]at h;cases h;exact⟨_,ht,rfl,hm⟩
 ·cases h
theorem xI(hT:Js P T){t:TypeId}(ho:o.op = .makeMap t none):Rule P o vals mm c K (uB T c K t):=by
 unfold uB;split
 ·rename_i k v tt ht;intro r hr;refine⟨_,hr,?_⟩;intro own g w a m u hle hm hd hall hfr hrep
  refine A7 (ob:=.map #[] 0) hm hd hall (hfr 0 (by simp)) (v:=.map (some w.heap.size)) ?_ ?_ ?_
  ·intro g' w' hi;exact .c (.Oa hi)
  ·intro g' w' hle' hi hh
   exact⟨w.heap.size,hi,[],hh,rfl,by simp⟩
  ·simp[execOp,ho,Instr.makeMap,newObj];rfl
 ·exact ah
theorem Ef{ts r:List Ty}{k:IntKind}(h:ts = .int k::r)(a:Jk F ts){kd:ND F}{Ni:List (ND F)}(he:LJ F ts a=kd::Ni):∃n,kd = .i k n:=by subst h;simp only[LJ,enc1,QeY]at he;exact⟨_,he.1.symm⟩
theorem FD{ts r:List Ty}(h:ts = .str::r)(a:Jk F ts){kd:ND F}{Ni:List (ND F)}(he:LJ F ts a=kd::Ni):∃l,kd = .s l:=by subst h;simp only[LJ,enc1,QeY]at he;exact⟨_,he.1.symm⟩
theorem vI{tt:Ty}{d:TypeDesc}{kd:ND F}(h:Oj tt (some d) kd=true){w:World}{IV:Nat→Prop}{kv:Value}(hk:Jm w IV kd kv) :
  MapKept.IsKey d kv∧∀(w':World)(Jg:Nat→Prop)(x:ET F tt)(kd':ND F) (Ni:List (ND F)) (ek:Value),Jc F tt x=kd'::Ni→Jm w' Jg kd' ek→(MG tt kd x=true↔ek=kv)∧MapKept.IsKey d ek:=by
 unfold Oj at h;split at h
 ·rename_i n;split at h
  ·rename_i K r K' K'' m hfs hd;cases hd;simp only[KQ,decide_eq_true_eq]at h;obtain⟨rfl,rfl⟩:=h;cases hk;refine⟨rfl,λw' Jg x kd' Ni ek he hr=>?_⟩;obtain⟨m',rfl⟩:=Ef hfs _ he;cases hr;unfold MG;rw[he];refine⟨?_,rfl⟩;simp only[beq_iff_eq,Value.int.injEq,true_and];exact eq_comm
  ·rename_i r l hfs hd;cases hd;cases hk;refine⟨trivial,λw' Jg x kd' Ni ek he hr=>?_⟩;obtain⟨l',rfl⟩:=FD hfs _ he;cases hr;unfold MG;rw[he];refine⟨?_,trivial⟩;simp only[beq_iff_eq,Value.string.injEq];constructor
   ·rintro rfl;rfl
   ·intro e;have:=congrArg (λb:ByteArray=>b.data.toList) e;exact this.symm
  ·cases h
 ·cases h
theorem uF{tt:Ty}{p:ET F tt→Bool}{d:TypeDesc}{kv:Value}(hk:MapKept.IsKey d kv):∀(l:List (ET F tt)) (es:List MapEntry) (i:Nat),es.length=l.length→
  (∀(k:Nat)(x:ET F tt)(e:MapEntry),l[k]? = some x→es[k]? = some e→(p x=true↔e.key=kv)∧MapKept.IsKey d e.key)→
  (Instr.findNow d kv es i=some none∧l.find? p=none∧(∀y,Ll p l y=l++[y])∧Oc p l=false)∨
  ∃j x e,Instr.findNow d kv es i=some (some (i+j,e.val))∧l[j]? = some x∧es[j]? = some e∧e.key=kv∧l.find? p=some x∧(∀y,Ll p l y=l.set j y)∧Oc p l=true
 | [],es,i,hl,h=>by
  have:es = []:=O1 (by simpa using hl)
  subst this;exact .inl ⟨rfl,rfl,λ_=>rfl,rfl⟩
 | x::l,[],i,hl,h=>by simp at hl
 | x::l,e::es,i,hl,h=>by
  obtain⟨h1,h2⟩:=h 0 x e rfl rfl;obtain⟨r,hr,hiff⟩:=MapKept.sameNow_of_keys hk h2
  cases hp:p x with
  | true=>
   have he:=h1.1 hp;have hrt:r=true:=hiff.2 he.symm;subst hrt
   exact .inr ⟨0,x,e,by simp[Instr.findNow,hr],rfl,rfl,he,by simp[hp],λy=>by simp[Ll,hp],by simp[Oc,hp]⟩
  | false=>
   have hne:¬ kv=e.key:=λq=>by have:=h1.2 q.symm;rw[hp]at this;cases this
   have hrf:r=false:=by
    cases r with
    | false=>rfl
    | true=>exact absurd (hiff.1 rfl) hne
   subst hrf
   rcases uF hk l es (i+1) (by simpa using hl) (λk x e a b=>h (k+1) x e a b)with⟨k1,k2,k3,k4⟩ | ⟨j,x',e',k1,k2,k3,k4,k5,k6,k7⟩
   ·exact .inl ⟨by simp[Instr.findNow,hr,k1],by simp[hp,k2],λy=>by simp[Ll,hp,k3],by unfold Oc at k4 ⊢;simp[hp,k4]⟩
   ·exact .inr ⟨j+1,x',e',by simp[Instr.findNow,hr,k1];omega,by simpa using k2,by simpa using k3,k4,by simp[hp,k5],λy=>by simp[Ll,hp,k6],by unfold Oc at k7 ⊢;simp[hp,k7]⟩
theorem ui{tt:Ty}{x:ET F tt}{d:Dat F}(h:pL tt x=some d){kd:ND F}{Ni:List (ND F)}(he:Jc F tt x=kd::Ni){v:Value}(hv:L8 w g.IV (Ni,tt.SI) v):Jr P g w d v:=by
 unfold pL at h;rw[he]at h;dsimp only at h
 cases hs:tt.SI with
 | true=>
  rw[hs]at h hv;cases h
  cases hv with
  | agg hl hh=>
   refine .agg (by simpa using hl) λk c x a b=>?_
   rw[MN,RF]at a;obtain⟨d,hd,rfl⟩:=a;exact .im (hh k d x hd b)
 | false=>
  rw[hs]at h hv;simp only[cond_false]at h;split at h
  ·cases h
   cases hv with
   | one h=>exact .c (.im h)
  ·cases h
theorem Cn(hT:Js P T){v:TypeId}{tt:Ty}{kd:ND F}{z:ET F tt}(h:vQ T v tt kd=some z){d:Dat F}(hd:pL tt z=some d):∃zv,(zeroValue v).run P w = .ok zv w∧Jr P g w d zv:=by
 unfold vQ at h;split at h
 ·rename_i te hte
  cases hc:dj te.desc == tt.SI with
  | false=>rw[hc]at h;cases h
  | true=>
   rw[hc]at h;simp only[cond_true]at h
   have hag:dj te.desc=tt.SI:=by simpa using hc
   have hle:=bK F h;obtain⟨j,hj,_,_,zv,hz,hzs,hzl,hr⟩:=hT.info v te hte;have hza:=hT.zag v te j zv hte hj hz
   refine⟨zv,by simp[zeroValue,typeInfo,hj,hz],?_⟩
   cases he:Jc F tt z with
   | nil=>rw[he]at hle;exact absurd hle.1 (by simp)
   | cons kd' Ni=>
    rw[he]at hle
    have hl2:OJ te.zero Ni:=⟨by simpa using hle.1,λk a b h1 h2=>hle.2 (k+1) a b h1 h2⟩
    refine ui hd he ?_
    cases hs:tt.SI with
    | true=>
     rw[hag,hs]at hza
     cases zv with
     | agg cs=>
      refine .agg (by show cs.toList.length=Ni.length;rw[← hl2.1,hzl,← hzs];rfl) λk c x a b=>?_
      have hlt:k<te.zero.length:=by rw[hl2.1];exact(IS.1 a).1
      exact(hr w g.IV k _ x (IR hlt) (by rw[← Zz];exact b)).Uh (hl2.2 k _ c (IR hlt) a)
     | _=>cases hza
    | false=>
     unfold pL at hd;rw[he,hs]at hd;simp only[cond_false]at hd;split at hd
     ·rename_i d0;rw[hag,hs]at hza
      have h0:0<te.zero.length:=by rw[hl2.1];simp
      have hcell:zv.cells[0]? = some zv:=by
       cases zv<;>first | rfl | cases hza
      exact .one ((hr w g.IV 0 _ zv (IR h0) hcell).Uh (hl2.2 0 _ d0 (IR h0) rfl))
     ·cases hd
 ·cases h
theorem wI{tt:Ty}{d:TypeDesc}{kd:ND F}(h:Oj tt (some d) kd=true){IV:Nat→Prop}{kv:Value}(hk:Jm w IV kd kv){l:List (ET F tt)}{es:List MapEntry}
  (h3:∀(k:Nat)(x:ET F tt)(e:MapEntry),l[k]? = some x→es[k]? = some e→e.born=k∧∃kd Ni,Jc F tt x=kd::Ni∧Jm w IV kd e.key∧L8 w IV (Ni,tt.SI) e.val) :
  ∀(k:Nat)(x:ET F tt)(e:MapEntry),l[k]? = some x→es[k]? = some e→(MG tt kd x=true↔e.key=kv)∧MapKept.IsKey d e.key:=by
 intro k x e a b;obtain⟨_,kd',Ni,q1,q2,_⟩:=h3 k x e a b;exact(vI h hk).2 w IV x kd' Ni e.key q1 q2
theorem z_(hT:Js P T){t:TypeId}{x y:Operand}{ok:Bool}(ho:o.op = .lookup t x y ok):Rule P o vals mm c K (vP T vals mm K t ok):=by
 unfold vP;split
 ·rename_i k v tt id kd hmt;split
  ·rename_i O5 l hid;split
   ·rename_i Rz;subst Rz
    cases hko:Oj O5 (ez T k) kd with
    | false=>exact ah
    | true=>
     simp only[cond_true];split
     ·rename_i z hz;split
      ·rename_i d hd;refine ao ?_;intro own g w a m hle hm hr;rw[ho]at hr;simp only[Op.operands,KZ,Lx]at hr;obtain⟨hx,hy⟩:=KG hr;obtain⟨ti,ht,hde,hmp⟩:=ul hmt;obtain⟨b,k1,k2,es,k3,k4,k5⟩:=pX hm (hle _ _ hid);obtain⟨b',c',k6,ex⟩:=pQ (aV hx);rw[k2]at k6;cases k6;have hu:=hT.und _ _ ht;rw[hde]at hu
       cases hdk:ez T k with
       | none=>rw[hdk]at hko;unfold Oj at hko;split at hko<;>(try cases hko);split at hko<;>simp_all
       | some dk=>
        rw[hdk]at hko
        have WJ:P.underlying k=some dk:=by
         unfold ez at hdk;split at hdk
         ·rename_i ti' Z0;cases hdk;exact hT.und _ _ Z0
         ·cases hdk
        have hkv:=bX (aV hy);have hrel:=wI hko hkv k5;have hik:=(vI hko hkv).1
        have hfin:∀{v':Value}{bb:Bool}{d':Dat F},Jr P g w d' v'→(Oc (MG O5 kd) l=bb)→Jr P g w (cond ok (.MC [d',.c (.im (.b (Oc (MG O5 kd) l)))]) d') (if ok=true then .tuple #[v',.bool bb]else v'):=by
         intro v' bb d' hv' hb
         cases ok with
         | false=>exact hv'
         | true=>
          refine .MC rfl λj d0 x0 a0 b0=>?_
          match j with
          | 0=>cases a0;cases b0;exact hv'
          | 1=>cases a0;cases b0;rw[hb];exact .c (.im (.b _))
          | j+2=>simp at a0
        rcases uF (p:=MG O5 kd) hik l es 0 k4 hrel with⟨f1,f2,_,f4⟩ | ⟨j,x0,e0,f1,f2,f3,f4,f5,_,f7⟩
        ·obtain⟨zv,hz1,hz2⟩:=Cn (w:=w) (g:=g) hT hz (d:=d) (by rw[← hd];unfold Lp;rw[f2];rfl)
         refine⟨if ok=true then .tuple #[zv,.bool false]else zv,?_,hfin hz2 f4⟩
         simp only[execOp,ho,ex,Instr.lookup,LC,run_underlying hu,LV,MapKept.run_getObj_map k3,MI,MapKept.run_checkKey WJ hik,MapKept.run_findKey WJ f1,hz1]
        ·obtain⟨_,kd',Ni,q1,q2,q3⟩:=k5 j x0 e0 f2 f3
         refine⟨if ok=true then .tuple #[e0.val,.bool true]else e0.val,?_,hfin (ui (x:=x0) (by rw[← hd];unfold Lp;rw[f5];rfl) q1 q3) f7⟩
         simp only[execOp,ho,ex,Instr.lookup,LC,run_underlying hu,LV,MapKept.run_getObj_map k3,MI,MapKept.run_checkKey WJ hik,MapKept.run_findKey WJ f1]
      ·exact ah
     ·exact ah
   ·exact ah
  ·exact ah
 ·exact ah
def NK(w:World)(b:Nat)(ob:Obj):World:={ w with heap:=w.heap.setIfInBounds b ob }
theorem se(w:World)(b:Nat)(ob:Obj){b':Nat}(h:b'≠b):(NK w b ob).heap[b']? = w.heap[b']?:=by show(w.heap.setIfInBounds b ob)[b']? = _;simp[Ne.symm h]
theorem ym(w:World)(b:Nat)(ob:Obj)(h:b<w.heap.size):(NK w b ob).heap[b]? = some ob:=by show(w.heap.setIfInBounds b ob)[b]? = _;simp[h]
theorem uf(w:World)(b:Nat)(ob:Obj):(NK w b ob).heap.size=w.heap.size:=by show(w.heap.setIfInBounds b ob).size=_;simp
theorem qo(hm:Je own g w m){id b:Nat}{ob:Obj}{B B':Jw F}(hB:m id=some B)(ho:B.owned=true)(hblk:g.blk id b)
  (hB':(NK w b ob).heap[b]? = some ob→Le g w g (NK w b ob)→KL g (NK w b ob) id B') :
  Je own g (NK w b ob) (Kc m [(id,some B')])∧Stp m g w g (NK w b ob):=by
 have hlt:b<w.heap.size:=(hm.ok id B hB).place hm.IV (Jw.MQ ho) hblk;have hne:∀b',b'≠b→(NK w b ob).heap[b']? = w.heap[b']?:=λb' h=>se w b ob h;have Sk:¬ g.IV b:=(hm.own id B b hB ho hblk).2;have hle:Le g w g (NK w b ob):=⟨λ_ _ h=>h,λ_ h=>h,λb' hb'=>hne b' (λe=>Sk (e▸hb')),λ_ h=>h,λb' hb'=>hne b' (λe=>(hm.len b' hb').1 (e▸(hm.own id B b hB ho hblk).1))⟩
 have less:∀x,x≠id→∀Bx,Kc m [(id,some B')] x=some Bx→m x=some Bx:=by intro x hx Bx h;simp only[Kc]at h;rw[aj (λe=>hx e.symm)]at h;simpa using h
 refine⟨?_,hle,rfl,rfl,rfl,by rw[uf];exact Ku _,?_,Ku _⟩
 ·refine hm.Ml (S:=λx=>x=id) hle less (λ_ _=>rfl) ?_ ?_ ?_ hm.io (λb' hb'=>⟨(hm.len b' hb').1,by rw[uf];exact(hm.len b' hb').2⟩)
  ·intro x Bx b' hx hBx hox hbx;refine⟨hne b' (λe=>hx ?_),(hm.own x Bx b' hBx hox hbx).2⟩;subst e;exact hm.Ou x id Bx B b' hBx hB hox ho hbx hblk
  ·rintro x Bx rfl hBx;simp only[Kc,bc,if_true,KV]at hBx;subst hBx;refine⟨hB' (ym w b ob hlt) hle,?_⟩;rintro b' Zo hb';refine⟨(hm.own x B b' hB ho hb').1,(hm.own x B b' hB ho hb').2,?_⟩;intro y By hy hoy hby;by_cases hyx:y=x
   ·exact hyx
   ·exact hm.Ou y x By B b' (less y hyx By hy) hB hoy ho hby hb'
  ·intro b' hb';rw[uf];exact hm.IV b' hb'
 ·intro b' _ hno;exact hne b' (λe=>hno id B hB ho (e▸hblk))
theorem xu(hm:Je own g w m)(hle:M6 mm m){tt:Ty}{d:Dat F}{cs:List (Ko F)}(h:sd tt d=some cs){ds:List (ND F)}(hds:bM mm cs=some (ds,[])){v:Value}(hv:Jr P g w d v){Ni:List (ND F)}(hl:OJ ds Ni):L8 w g.IV (Ni,tt.SI) v:=by
 have nd:=λ(vs:List Value)(hr:∀(k:Nat)(x:Ko F)(v:Value),cs[k]? = some x→vs[k]? = some v→Jz g w x v)=>fb hm hle hds (g1:=g) (.refl g w) (by simp) vs hr
 have hlen:=dR hds;unfold sd at h;split at h
 ·rename_i x
  cases hs:tt.SI with
  | true=>rw[hs]at h;cases h
  | false=>
   rw[hs]at h;cases h
   have h1:=nd [v] (λk x0 v0 a b=>by
    cases k with
    | zero=>cases a;cases b;exact aV hv
    | succ k=>simp at a)
   match ds,hlen,hl,h1 with
   | [d0],_,hl,h1=>
    match Ni,hl with
    | [d1],hl=>exact .one ((h1 0 d0 v rfl rfl).Uh (hl.2 0 d0 d1 rfl rfl))
    | [],hl=>exact absurd hl.1 (by simp)
    | _::_::_,hl=>exact absurd hl.1 (by simp)
   | [],hlen,_,_=>simp at hlen
   | _::_::_,hlen,_,_=>simp at hlen
 ·rename_i cs'
  cases hs:tt.SI with
  | false=>rw[hs]at h;cases h
  | true=>
   rw[hs]at h;cases h
   cases hv with
   | agg hl2 hh=>
    rename_i vs;have h1:=nd vs hh
    refine .agg (by rw[hl2,← hlen,hl.1]) λk c x a b=>?_
    have hlt:k<ds.length:=by rw[hl.1];exact(IS.1 a).1
    exact(h1 k _ x (IR hlt) b).Uh (hl.2 k _ c (IR hlt) a)
 ·cases h
theorem vO(hT:Js P T){t:TypeId}{x y z:Operand}(ho:o.op = .mapUpdate t x y z):Rule P o vals mm c K (qz T vals mm K t):=by
 unfold qz;split
 ·rename_i k v tt id kd d hmt;split
  ·rename_i O5 l cs hid hcs;split
   ·rename_i Rz;subst Rz
    cases hko:Oj O5 (ez T k) kd with
    | false=>exact ah
    | true=>
     simp only[cond_true];split
     ·rename_i ds hds;split
      ·rename_i ny hny;intro r hr;refine⟨_,hr,?_⟩;intro own g w a m u hle hm hd hall hfr hrep;rw[ho]at hrep;simp only[Op.operands,KZ,Lx]at hrep;obtain⟨hx,hyz⟩:=aP.1 hrep;obtain⟨hy,hz⟩:=KG hyz;obtain⟨ti,ht,hde,hmp⟩:=ul hmt;obtain⟨b,k1,k2,es,k3,k4,k5⟩:=pX hm (hle _ _ hid);obtain⟨b',c',k6,ex⟩:=pQ (aV hx);rw[k2]at k6;cases k6;have hu:=hT.und _ _ ht;rw[hde]at hu
       cases hdk:ez T k with
       | none=>rw[hdk]at hko;unfold Oj at hko;split at hko<;>(try cases hko);split at hko<;>simp_all
       | some dk=>
        rw[hdk]at hko
        have WJ:P.underlying k=some dk:=by
         unfold ez at hdk;split at hdk
         ·rename_i ti' Z0;cases hdk;exact hT.und _ _ Z0
         ·cases hdk
        have hkv:=bX (aV hy);have hrel:=wI hko hkv k5;have hik:=(vI hko hkv).1;have hle2:=bK F hny
        cases he:Jc F O5 ny with
        | nil=>rw[he]at hle2;exact absurd hle2.1 (by simp)
        | cons kd' Ni=>
         rw[he]at hle2
         have hl2:OJ ds Ni:=⟨by simpa using hle2.1,λk a b h1 h2=>hle2.2 (k+1) a b h1 h2⟩
         have hkd:Rl kd kd':=hle2.2 0 kd kd' rfl rfl;have hkv':Jm w g.IV kd' (a.eval y):=hkv.Uh hkd;have hval:=xu hm hle hcs hds hz hl2
         have done:∀(es':List MapEntry),(execOp a.eval o).run P w = .ok .skip (NK w b (.map ⟨es'⟩ es'.length))→es'.length=(Ll (MG O5 kd) l ny).length→
           (∀(k:Nat)(x:ET F O5)(e:MapEntry),(Ll (MG O5 kd) l ny)[k]? = some x→es'[k]? = some e→e.born=k∧∃kd Ni,Jc F O5 x=kd::Ni∧Jm w g.IV kd e.key∧L8 w g.IV (Ni,O5.SI) e.val)→
           M0 P own m u g w o a c { val:=.c .any,mw:=[(id,some (.mp O5 (Ll (MG O5 kd) l ny)))] }:=by
          intro es' hrun h1 h2
          obtain⟨w1,w2⟩:=qo (ob:=.map ⟨es'⟩ es'.length) (B':=.mp O5 (Ll (MG O5 kd) l ny)) hm (hle _ _ hid) rfl (G.Kn k2) (by intro hh hle';refine⟨b,k2,es',hh,h1,λk x e p q=>?_⟩;obtain⟨p1,kd0,abJ,p2,p3,p4⟩:=h2 k x e p q;exact⟨p1,kd0,abJ,p2,p3.mono hle'.IV hle'.heap,p4.mono hle'.IV hle'.heap⟩)
          intro next Q hn;unfold Oper.wp;rw[hrun];exact hn undef _ g (.c .any) w1 w2 (λid hu _=>hd id hu)
         rcases uF (p:=MG O5 kd) hik l es 0 k4 hrel with⟨f1,f2,f3,f4⟩ | ⟨j,x0,e0,f1,f2,f3,f4,f5,f6,f7⟩
         ·refine done (es++[{ key:=a.eval y,val:=a.eval z,born:=es.length }]) ?_ (by rw[f3];simp[k4]) ?_
          ·simp only[execOp,ho,ex,Instr.mapUpdate,LC,run_underlying hu,LV,MapKept.run_getObj_map k3,MI,MapKept.run_checkKey WJ hik,MapKept.run_findKey WJ f1,MapKept.run_setObj_map _ k3];simp[NK]
          ·intro k x e p q;rw[f3]at p;by_cases hk:k<l.length
           ·rw[Mv hk]at p
            rw[Mv (by omega)]at q
            exact k5 k x e p q
           ·rw[Nc (by omega)]at p
            rw[Nc (by omega)]at q
            have hk0:k - l.length=0:=by have:=(IS.1 p).1;simp at this;omega
            rw[hk0]at p
            rw[show k - es.length=0 by omega]at q
            cases p;cases q
            exact⟨by show es.length=k;omega,kd',Ni,he,hkv',hval⟩
         ·have hjl:j<es.length:=(IS.1 f3).1
          refine done (es.set j { e0 with key:=a.eval y,val:=a.eval z }) ?_ (by rw[f6];simp[k4]) ?_
          ·have hst:(Instr.keyThatStays (((⟨es⟩:Array MapEntry)[0+j]?.map (·.key)).getD (a.eval y)) (a.eval y)).run P w = .ok (a.eval y) w:=by
            have e1:(((⟨es⟩:Array MapEntry)[0+j]?.map (·.key)).getD (a.eval y))=a.eval y:=by rw[LY,List.getElem?_toArray,f3];exact f4
            rw[e1];exact MapKept.run_keyThatStays hik
           have hmod:(⟨es⟩:Array MapEntry).modify (0+j) (λe=>{ e with key:=a.eval y,val:=a.eval z })=⟨es.set j { e0 with key:=a.eval y,val:=a.eval z }⟩:=by
            apply Array.toList_inj.1;apply Zw;intro i;rw[Zz,QdD,List.getElem?_toArray];show _=(es.set j _)[i]?;rw[List.getElem?_set];by_cases hij:j=i
            ·subst hij;simp[hjl,f3];have:=(IS.1 f3).2;rw[this]
            ·simp[hij]
           simp only[execOp,ho,ex,Instr.mapUpdate,LC,run_underlying hu,LV,MapKept.run_getObj_map k3,MI,MapKept.run_checkKey WJ hik,MapKept.run_findKey WJ f1,hst,MapKept.run_setObj_map _ k3,hmod];simp[NK]
          ·intro k x e p q;rw[f6]at p;rw[List.getElem?_set]at p q;by_cases hjk:j=k
           ·subst hjk
            rw[if_pos rfl,if_pos (by omega)]at p q
            cases p;cases q
            exact⟨(k5 j x0 e0 f2 f3).1,kd',Ni,he,hkv',hval⟩
           ·rw[if_neg hjk]at p q;exact k5 k x e p q
      ·exact ah
     ·exact ah
   ·exact ah
  ·exact ah
 ·exact ah
end
set_option linter.unusedVariables false
set_option linter.unusedSimpArgs false
section
variable{F:Fam}{P:Program}{T:TypeId→Option (TI F)}{Γ : Ctx F}{o:Oper}{vals:List (Dat F)}{mm:Nat→Option (Jw F)}{c:Nat}{R:Type}{K:Oq F→Option R}
variable{own:Ow}{g:G}{w:World}{m:Nat→Option (Jw F)}{u:Nat→Bool}{a:Act}
theorem Di{t ty e:TypeId}{j:TypeInfo}{z:Value}(hu:P.underlying t=some (.slice e))(hj:P.info? e=some j)(hz:j.zero=some z){b q n cap:Nat}{cur:List Value}
  {e':TypeId} (hb:w.heap[b]? = some (.cells ⟨cur⟩ e' (0,0))) (hn:0<n) (h1:∀x∈(Builtin.zeroCells z.cells n).toList,x.oneCell'=true) (hfit:q+(Builtin.zeroCells z.cells n).toList.length≤cur.length) :
  (Builtin.clear_ #[t] ty #[.slice (some ⟨b,q,none⟩) n cap]).run P w =
    .ok (.tuple #[]) (w.setRow b (cur.take q++(Builtin.zeroCells z.cells n).toList++cur.drop (q+(Builtin.zeroCells z.cells n).toList.length)).toArray):=by
 have hst:=run_storeCells_at P b q e' (Builtin.zeroCells z.cells n).toList 0 ⟨cur⟩ w hb (by simpa using hfit) h1
 simp only[RS]at hst
 obtain⟨m,rfl⟩:∃m,n=m+1:=⟨n - 1,by omega⟩
 simp[Builtin.clear_,run_underlying hu,zeroValue,typeInfo,hj,hz,hst]
theorem BP(hT:Js P T)(hm:Je own g w m)(hd:∀id,u id=false→g.ids id=none)
  {t e:TypeId} {i te:TI F} (ht:T t=some i) (hde:i.desc = .slice e) (hte:T e=some te) {tt:Ty} (hsz:Jf F tt=te.size) (h0:0<te.size) {z0:ET F tt} (hz0:Mg F tt te.zero=some z0) {x:Operand}
  (ho:o.op = .call { callee:=.builtin .clear,args:=#[x],argTypes:=#[t] }) {l:List (ET F tt)} {id off n:Nat} (hrow:m id=some (.row tt l))
  (hdst:(g.ids id=none∨g.ids id=some none)∧off=0∧n=0∧(∃p,a.eval x = .slice p 0 0)∨∃b q dCap cap,g.ids id=some (some (b,cap,l.length,[]))∧a.eval x = .slice (some ⟨b,q,none⟩) n dCap∧off+n≤l.length∧(n=0∨q=off*Jf F tt)) :
  M0 P own m u g w o a c { val:=.MC [],mw:=[(id,some (.row tt (LD l off n (List.replicate n z0))))] }:=by
 have hu:=hT.und _ _ ht;rw[hde]at hu;obtain⟨j,z,hj,hs,hb,hz,hzs,hml,hzl,hmr⟩:=pq hT hte h0 n
 have MP:∀{v:Value}{w':World},(Builtin.clear_ #[t] o.type #[a.eval x]).run P w = .ok v w'→(execOp a.eval o).run P w = .ok (.value v) w':=by intro v w' hr;simp only[execOp,ho,resolve,invoke,builtin,LC,MI,LV,QeF,KZ,Lx,hr]
 have same:∀{l':List (ET F tt)},l'=l→Kc m [(id,some (.row tt l'))]=m:=by
  rintro l' rfl
  funext x
  simp only[Kc];split
  ·rename_i hx;rw[← M5 hx,hrow]
  ·rfl
 have abL:∀g' w',Jr (F:=F) P g' w' (.MC []) (.tuple #[]):=λg' w'=>.MC rfl (λj d x h=>by simp at h)
 by_cases hn0:n=0
 ·subst hn0
  have hl:LD l off 0 (List.replicate 0 z0)=l:=by simp[LD]
  have hrun:(execOp a.eval o).run P w = .ok (.value (.tuple #[])) w:=by
   refine MP ?_
   have:∃p q,a.eval x = .slice p 0 q:=by
    rcases hdst with⟨_,_,_,p,e⟩ | ⟨b,q,dCap,cap,_,e,_⟩
    ·exact⟨p,0,e⟩
    ·exact⟨_,_,e⟩
   obtain⟨p,q,e⟩:=this;rw[e]
   cases p<;>simp[Builtin.clear_,run_underlying hu]
  intro next Q hn;unfold Oper.wp;rw[hrun]
  exact hn _ w g (abL _ _) (by rw[same hl];exact hm) (.refl _ _ _) (λid hu _=>hd id hu)
 ·rcases hdst with⟨_,_,h,_⟩ | ⟨b,q,dCap,cap,hid,hxv,hoff,hq⟩
  ·exact absurd h hn0
  rcases hm.ok id _ hrow with⟨k1,_⟩ | ⟨b',cap2,cur,e',k1,k2,k3,k4,k5,k6⟩
  ·rw[k1]at hid;cases hid
  ·rw[k1]at hid;cases hid;have hq:q=off*Jf F tt:=hq.resolve_left hn0;subst hq;have hcl:(cells F tt l).length=l.length*Jf F tt:=aC
   have hcur:(cells F tt l).length≤cur.length:=by rw[hcl,k5];exact MW _ k3
   obtain⟨zs,RX⟩:∃zs,zs=(Builtin.zeroCells z.cells n).toList:=⟨_,rfl⟩
   have hzm:zs=(madeCells z.cells (n*te.size)).toList:=by rw[RX];unfold Builtin.zeroCells madeCells;rw[hzs]
   have hfl:(List.replicate n te.zero).flatten.length=n*te.size:=by
    rw[qQ (sz:=te.size) (λx hx=>by rw[QeZ]at hx;rw[hx.2,hzl])]
    simp
   have VX:zs.length=n*Jf F tt:=by rw[hzm,hml,hfl,hsz]
   have h1:∀x∈zs,x.oneCell'=true:=by
    intro x hx;obtain⟨k,hk⟩:=RD hx
    have hlt:k<(List.replicate n te.zero).flatten.length:=by have:=(IS.1 hk).1;rw[hfl,← hsz,← VX];exact this
    exact(hmr w g.IV k _ x (IR hlt) (by rw[← hzm];exact hk)).oneCell
   have hmin:min n (List.replicate n z0).length=n:=by simp
   have hm1:off+min n (List.replicate n z0).length≤l.length:=by rw[hmin];exact hoff
   have hfit:off*Jf F tt+zs.length≤cur.length:=by rw[VX,← OI];have:(off+n)*Jf F tt≤l.length*Jf F tt:=MW _ hoff;omega
   have hrun:=Di (P:=P) (w:=w) (ty:=o.type) (n:=n) (cap:=dCap) (q:=off*Jf F tt) hu hj hz k2 (by omega) (by rw[← RX];exact h1) (by rw[← RX];exact hfit)
   rw[← RX]at hrun;have hz2:OJ te.zero (Jc F tt z0):=bK F hz0
   obtain⟨w1,w2⟩:=sD (B':=.row tt (LD l off n (List.replicate n z0))) (arr:=cur.take (off*Jf F tt)++zs++cur.drop (off*Jf F tt+zs.length)) hm hrow rfl k1 k2 (by
    intro hh hle'
    refine .inr ⟨b,cap,_,e',by rw[jR hm1];exact k1,hh,by rw[jR hm1];exact k3,k4,?_,?_⟩
    ·simp only[IT,Ld,Na];omega
    ·intro k d x p q;refine Jm.le hle' ?_;rw[wD hm1]at p
     have hrl:(cells F tt (List.replicate n z0)).length=n*Jf F tt:=by rw[aC,List.length_replicate]
     have ht0:(cells F tt (List.replicate n z0)).take (n*Jf F tt)=cells F tt (List.replicate n z0):=XE (by rw[hrl];exact Ku _)
     rw[ht0]at p;refine qG (w:=w) (IV:=g.IV) (cs:=cells F tt l) (ds:=cells F tt (List.replicate n z0)) (cur:=cur) (vs:=zs) (q:=off*Jf F tt) ?_ hcur k6 ?_ ?_ k d x p q
     ·rw[hrl,aC,← OI];exact MW _ hoff
     ·rw[VX,hrl]
     ·intro k d x h3 h4
      have hk:k<n*Jf F tt:=by rw[← hrl];exact(IS.1 h3).1
      have hlz:(Jc F tt z0).length=te.size:=by rw[aS,hsz]
      have e1:(cells F tt (List.replicate n z0))=(List.replicate n (Jc F tt z0)).flatten:=by simp[cells]
      rw[e1,cP _ (by rw[hlz];omega) n k (by rw[hlz,← hsz];exact hk),hlz]at h3
      have hk2:k<n*te.zero.length:=by rw[hzl,← hsz];exact hk
      have hk3:k % te.size<te.zero.length:=by rw[hzl];exact Nat.mod_lt _ (by omega)
      have e2:(List.replicate n te.zero).flatten[k]? = some te.zero[k % te.size]:=by
       rw[cP te.zero (by omega) n k hk2,hzl,IR hk3]
      exact(hmr _ _ k _ x e2 (by rw[← hzm];exact h4)).Uh (hz2.2 (k % te.size) _ d (IR hk3) h3))
   intro next Q hn;unfold Oper.wp
   rw[MP (by rw[hxv];exact hrun)]
   exact hn _ _ g (abL _ _) w1 w2 (λid hu _=>hd id hu)
theorem Be(hT:Js P T){t:TypeId}{x:Operand}(ho:o.op = .call { callee:=.builtin .clear,args:=#[x],argTypes:=#[t] }):Rule P o vals mm c K (zp T vals mm K t):=by
 unfold zp;split
 ·rename_i e _ _ _ _ _ id sz off n ht;split
  ·exact ah
  ·rename_i te hte;split
   ·rename_i tt l hrow;refine au (λhc=>?_) (λ_=>ah);simp only[KQ,decide_eq_true_eq,beq_iff_eq]at hc;obtain⟨⟨hsz,rfl⟩,h0⟩:=hc
    have h0:0<te.size:=by
     have:1≤te.size:=by simpa[Nat.blt]using h0
     omega
    split
    ·rename_i z hz;intro r' hr';refine⟨_,hr',?_⟩;intro own g w a m u hle hm hd hall hfr hrep;rw[ho]at hrep
     have h1:=KT (by simpa[Op.operands,Call.operands]using hrep)
     refine BP hT hm hd ht rfl hte hsz h0 hz ho (hle _ _ hrow) ?_;rcases kX (aV h1)with⟨hi,rfl,rfl,p,hv⟩ | ⟨b,c',len,q,hi,h5,h6,h7,h8,hv⟩
     ·exact .inl ⟨.inr hi,rfl,rfl,p,hv⟩
     ·obtain⟨rfl,_,_⟩:=bU hm (hle _ _ hrow) hi;refine .inr ⟨b,q,_,c',hi,hv,h5,?_⟩;rcases h7 with⟨h7,_⟩ | h7
      ·left;omega
      ·right;rw[h7,hsz]
    ·exact ah
   ·exact ah
 ·exact ah
theorem Dw(hT:Js P T){t:TypeId}{x:Operand}{lo hi:Option Operand}(ho:o.op = .slice t x lo hi none){bb:Bool}(hc:(bb&&lo.isNone)=true):Rule P o vals mm c K (Vu T vals mm c K t (ob hi 1)):=by
 have hlo:lo=none:=by cases lo with | none=>rfl | some _=>simp at hc
 subst hlo;clear hc;unfold Vu;split
 ·rename_i e _ _ _ _ _ id rest ht;split
  ·exact ah
  ·rename_i te hte;split
   ·rename_i tt l hrow;refine au (λhsz=>?_) (λ_=>ah);split
    ·rename_i q hq;refine aD λpr hr=>?_;intro r' hr';refine⟨_,hr',?_⟩;intro own g w a m u hle hm hd hall hfr hrep;obtain⟨c1,c2,c3,rfl⟩:=Dv hr
     have hops:o.op.operands.toList.map a.eval=a.eval x::(hi.map a.eval).toList:=by
      rw[ho]
      cases hi<;>simp[Op.operands]
     rw[hops]at hrep;have hx0:=hrep.2 0 _ (a.eval x) rfl rfl
     have hhi:(hi.map a.eval=none∧q=l.length)∨∃k,hi.map a.eval=some (.int k q):=by
      cases hi with
      | none=>simp only[ob,bound,KV]at hq;exact .inl ⟨rfl,hq.symm⟩
      | some y=>
       simp only[ob,bound]at hq;split at hq
       ·rename_i k n' hq';cases hq
        have:=hrep.2 1 _ (a.eval y) hq' (by simp)
        exact .inr ⟨k,by rw[SN,bG this]⟩
       ·cases hq
     have run:∀{ptr:Option Addr}{cap:Nat},a.eval x = .slice ptr l.length cap→l.length≤cap→
       (execOp a.eval o).run P w = .ok (.value (.slice (if cap=0 then ptr else ptr.map (·.add 0)) q.toNat cap)) w:=by
      intro ptr cap e1 h5;have hu:=hT.und _ _ ht
      have hr:=j9 (P:=P) (w:=w) true l.length cap none (hi.map a.eval) 0 q (.inl ⟨rfl,rfl⟩) hhi (by omega) c2 (by omega)
      simp only[execOp,ho,Instr.sliceAt,Instr.slice,LC,run_underlying hu,LV,e1,Option.map_none];rw[hr];simp only[LV,bw hT hte,MI];simp
     have OQ:g.ids c=none:=hd c (hfr 0 (by simp))
     have htk:(l.take (q.toNat - (0:Int).toNat)).length=q.toNat:=by rw[Ld];simp;omega
     have fin:∀{v:Value}{pl:Pl},(execOp a.eval o).run P w = .ok (.value v) w→
       (Je own (g.name c pl) w (Kc m ([id].map (λr=>(r,none))++[(c,some (.row tt (l.take (q.toNat - (0:Int).toNat))))]))∧Stp m g w (g.name c pl) w)→Jz (F:=F) (g.name c pl) w (.KP c) v→
       M0 P own m u g w o a c { val:=.c (.KP c),mw:=[(id,none),(c,some (.row tt (l.take (q.toNat - (0:Int).toNat))))],nu:=1 }:=by
      intro v pl hrun hst hv next Q hn;unfold Oper.wp;rw[hrun];refine hn _ _ _ (.c hv) hst.1 hst.2 ?_;intro y hy hcy
      have:y≠c:=by have hcy:y<c∨c+1≤y:=hcy;omega
      rw[bE _ _ _ this];exact hd y hy
     have hB:=hle _ _ hrow;rcases a_ (aV hx0)with⟨hid,ptr,ev⟩ | ⟨b,c',len,hid,h5,h6,ev⟩
     ·rcases hm.ok id _ hB with⟨_,rfl⟩ | ⟨_,_,_,_,k1,_⟩
      ·simp only[QeK]at c3 hq
       have hq0:q=0:=by omega
       subst hq0
       refine fin (pl:=none) (run (by simpa using ev) (Ku _)) (fT hm OQ (λ_ _ h=>by cases h) rfl rfl rfl (Ku _) (Ku _) (λ_ _ _=>rfl) (λg' _ hi=>.inl ⟨hi,by simp⟩)) ?_
       exact .ML _ (a9 _ _ _)
      ·rw[hid]at k1;cases k1
     ·rcases hm.ok id _ hB with⟨k1,_⟩ | ⟨b',cap2,cur,e',k1,k2,k3,k4,k5,k6⟩
      ·rw[k1]at hid;cases hid
      rw[k1]at hid;cases hid;refine fin (pl:=some (b,c',q.toNat,[])) (run ev k3) (fT (rm:=[id]) hm OQ ?_ rfl rfl rfl (Ku _) (Ku _) (λ_ _ _=>rfl) ?_) ?_
      ·intro b0 c0 e0 b1 hb1;cases e0;simp only[Km,IU]at hb1;subst hb1
       exact .inr ⟨id,by simp,_,hB,rfl,G.Kn k1⟩
      ·intro g' hle' hi
       refine .inr ⟨b,c',cur,e',by rw[htk];exact hi,k2,by rw[htk];omega,k4,k5,?_⟩
       intro k d x h1 h2
       have h1':(cells F tt l)[k]? = some d:=by
        have:=fm (F:=F) (l:=l) (a:=0) (n:=q.toNat - (0:Int).toNat);simp only[Fx.sub,List.drop_zero,Nat.zero_mul]at this;rw[this,MO]at h1;split at h1
        ·exact h1
        ·cases h1
       exact(k6 k d x h1' h2).mono hle'.IV hle'.heap
      ·have e:(if c'=0 then(some ⟨b,0,none⟩:Option Addr)else(some ⟨b,0,none⟩:Option Addr).map (·.add 0))=some ⟨b,0,none⟩:=by
        split
        ·rfl
        ·rfl
       rw[e]
       exact .KP (n:=(q.toNat,[])) (a9 _ _ _) (by dsimp only;omega) k4
    ·exact ah
   ·exact ah
 ·exact ah
end
end Go.Fx
