/-
  The framework, second part: rules for steps, calls and maps. Conditions: none.
-/
import Derived.Test.YtkagmokhbmbjdaaGreatDoorFxA
import Derived.Laws.Tables
namespace Go.Fx
open Go
set_option linter.unusedVariables false
set_option linter.unusedSimpArgs false
section
variable{F:Fam}{P:Program}{T:TypeId→Option (TI F)}{o:Oper}{vals:List (Dat F)}{mm:Nat→Option (Blk F)}{c:Nat}{R:Type}{K:Res F→Option R}{own:Ow}{g g':G}{w w':World}{m m':Nat→Option (Blk F)}
theorem am{a b:Nat}(h:a≠b):Nat.beq a b=false:=by
 cases hb:Nat.beq a b with
 | false=>rfl
 | true=>exact absurd (Nat.eq_of_beq_eq_true hb) h
theorem aV(a:Nat):Nat.beq a a=true:=Nat.beq_refl a
theorem aF{x:Nat}:∀{l:List Nat},memN x l=true↔x∈l
 | []=>by simp[memN]
 | y::l=>by
  simp only[memN];split
  ·rename_i h;have:=Nat.eq_of_beq_eq_true h;subst this;simp
  ·rename_i h
   have hne:x≠y:=by rintro rfl;simp[aV]at h
   rw[aF];simp[hne]
theorem dw(m:Nat→Option (Blk F)):∀(l r:List (Nat×Option (Blk F))),updM m (l++r)=updM (updM m l) r
 | [],r=>rfl
 | (id,B)::l,r=>dw _ l r
theorem cx:∀(mw:List (Nat×Option (Blk F))) (m:Nat→Option (Blk F)) (x:Nat),x∉mw.map (·.1)→updM m mw x=m x
 | [],m,x,_=>rfl
 | (id,B)::r,m,x,h=>by simp only[List.map_cons,List.mem_cons,not_or]at h;simp only[updM];rw[cx r _ x h.2,am (λe=>h.1 e.symm)];simp
theorem sO(m:Nat→Option (Blk F))(l:List (Nat×Option (Blk F)))(id:Nat)(B:Option (Blk F))(x:Nat):updM m (l++[(id,B)]) x=if x=id then B else updM m l x:=by
 rw[dw];simp only[updM];by_cases h:x=id
 ·subst h;simp
 ·rw[am (λe=>h e.symm)];simp[h]
theorem MemOk.chg{S:Nat→Prop}(hm:MemOk own g w m)(hl:Le g w g' w')
  (hsame:∀id,¬ S id→∀B,m' id=some B→m id=some B) (hids:∀id,¬ S id→g'.ids id=g.ids id)
  (hkeep:∀id B b,¬ S id→m id=some B→B.owned=true→g.blk id b→w'.heap[b]? = w.heap[b]?∧¬ g'.imm b)
  (hnew:∀id B,S id→m' id=some B→BlkOk g' w' id B∧∀b,B.owned=true→g'.blk id b→own.o b∧¬ g'.imm b∧∀id' B',m' id'=some B'→B'.owned=true→g'.blk id' b→id'=id)
  (himm:∀b,g'.imm b→b<w'.heap.size) (hio:∀b,g'.imm b→own.i b∨own.o b) (hlen:∀b,g'.len b→¬ own.o b∧b<w'.heap.size):MemOk own g' w' m':=by
 have hb:∀id b,¬ S id→g'.blk id b→g.blk id b:=by rintro id b hs ⟨b0,c,hc,hbb⟩;rw[hids id hs]at hc;exact⟨b0,c,hc,hbb⟩
 refine⟨?_,?_,?_,himm,hio,hlen⟩
 ·intro id B h;by_cases hs:S id
  ·exact(hnew id B hs h).1
  ·have h0:=hsame id hs B h;exact(hm.ok id B h0).le hl (λho b hb'=>(hkeep id B b hs h0 ho hb').1)
 ·intro id id' B B' b h h' ho ho' k k';by_cases hs:S id
  ·exact(((hnew id B hs h).2 b ho k).2.2 id' B' h' ho' k').symm
  ·by_cases hs':S id'
   ·exact((hnew id' B' hs' h').2 b ho' k').2.2 id B h ho k
   ·exact hm.dis id id' B B' b (hsame id hs B h) (hsame id' hs' B' h') ho ho' (hb id b hs k) (hb id' b hs' k')
 ·intro id B b h ho k;by_cases hs:S id
  ·exact⟨((hnew id B hs h).2 b ho k).1,((hnew id B hs h).2 b ho k).2.1⟩
  ·have h0:=hsame id hs B h;exact⟨(hm.own id B b h0 ho (hb id b hs k)).1,(hkeep id B b hs h0 ho (hb id b hs k)).2⟩
theorem MemOk.sub(hm:MemOk own g w m)(h:∀id B,m' id=some B→m id=some B):MemOk own g w m':=
 ⟨λid B hB=>hm.ok id B (h id B hB),λid id' B B' b hB hB'=>hm.dis id id' B B' b (h id B hB) (h id' B' hB'),λid B b hB=>hm.own id B b (h id B hB),hm.imm,hm.io,hm.len⟩
def G.fzs(g:G)(ids:List Nat):G:=⟨g.ids,λb=>g.imm b∨∃id∈ids,g.blk id b,g.len⟩
theorem pa(g:G)(w:World)(ids:List Nat):Le g w (g.fzs ids) w:=⟨λ_ _ h=>h,λ_ h=>.inl h,λ_ _=>rfl,λ_ h=>h,λ_ _=>rfl⟩
theorem Gb(hm:MemOk own g w m){id:Nat}{t:Ty}{l:List (ET F t)}(h:m id=some (.row t l)){g1:G}(hle:Le g w g1 w)(himm:∀b,g.blk id b→g1.imm b){v:Value}(hv:RepC (F:=F) g w (.wsl id) v):RepI w g1.imm (.sl t l) v:=by
 rcases aU hv with⟨hi,p,rfl⟩ | ⟨b,c,n,hi,h1,h2,rfl⟩
 ·rcases hm.ok id _ h with⟨_,rfl⟩ | ⟨b',cap,_,_,k1,_⟩
  ·exact .sl0 t p
  ·rw[hi]at k1;cases k1
 ·obtain⟨rfl,h4,h7⟩:=bQ hm h hi;refine .sl t l b 0 c (λk=>(w.cell? ⟨b,k,none⟩).getD undef) (himm b (G.blk_main hi)) h4 h2 ?_ ?_
  ·intro k d hk;obtain⟨x,k1,k2⟩:=h7 k d hk;rw[Nat.zero_add,k1];rfl
  ·intro k d hk;obtain⟨x,k1,k2⟩:=h7 k d hk;rw[k1];exact k2.le hle
theorem DM{imm imm':Nat→Prop}(hi:∀b,imm b→imm' b){t:Ty}{l:List (ET F t)}{pl:Pl}(h:bv w imm t l pl)(hb:∀b c,pl=some (b,c)→imm' b){v:Value}(hv:OwnV pl v):RepI w imm' (.sl t l) v:=by
 cases pl with
 | none=>obtain⟨p,rfl⟩:=hv;have h:l = []:=h;subst h;exact .sl0 t p
 | some q=>
  obtain⟨b,cap,n⟩:=q;obtain⟨rfl,q2,q3,cur,e,q4,q5,q6⟩:=h;have hv:v = .slice (some ⟨b,0,none⟩) l.length cap:=hv;subst hv
  have key:∀k d,(cells F t l)[k]? = some d→∃x,w.cell? ⟨b,k,none⟩=some x∧RepI w imm' d x:=by
   intro k d hk;have h7:k<(cells F t l).length:=(LQ.1 hk).1
   have hlt:k<cur.length:=by rw[ay]at h7;have:l.length*szT F t≤cap*szT F t:=Nat.mul_le_mul_right _ q2;omega
   exact⟨cur[k],by simp[World.cell?,q4,hlt],(q6 k d _ hk (LP hlt)).mono hi (λ_ _=>rfl)⟩
  refine .sl t l b 0 cap (λk=>(w.cell? ⟨b,k,none⟩).getD undef) (hb b _ rfl) q2 q3 ?_ ?_
  ·intro k d hk;obtain⟨x,k1,k2⟩:=key k d hk;rw[Nat.zero_add,k1];rfl
  ·intro k d hk;obtain⟨x,k1,k2⟩:=key k d hk;rw[k1];exact k2
theorem Fz{imm imm':Nat→Prop}(hi:∀b,imm b→imm' b){d:ND F}{x:Value}{pl:Option (Nat×Nat×Nat)}(h:OwnC w imm d x pl)(hb:∀b c,pl=some (b,c)→imm' b):RepI w imm' d x:=by
 cases d with
 | sl t l=>
  refine DM hi h.1 ?_ h.2;intro b c e
  cases pl with
  | none=>cases e
  | some q=>obtain⟨b',c',n'⟩:=q;simp only[lift1,Option.some.injEq,Prod.mk.injEq]at e;exact hb b (c',n') (by rw[← e.1])
 | _=>exact h.2.2.mono hi (λ_ _=>rfl)
theorem Cn(hm:MemOk own g w m){id:Nat}{t:Ty}{l:List (ET F t)}(h:m id=some (.nrow t l)){g1:G}(hle:Le g w g1 w)(himm:∀b,g.blk id b→g1.imm b){b c:Nat}{n:Nat×NS}(hi:g.ids id=some (some (b,c,n))) :
  n.1=l.length∧l.length≤c∧c≤maxLen∧∀k d,(cells F t l)[k]? = some d→∃x,w.cell? ⟨b,k,none⟩=some x∧RepI w g1.imm d x:=by
 obtain⟨k1,k2,k3,k4⟩:=eX hm h hi;refine⟨k1,k2,k3,λk d hk=>?_⟩;obtain⟨x,pl,h1,h2,h3⟩:=k4 k d hk;refine⟨x,h1,Fz hle.imm h3 ?_⟩;rintro b' c' rfl;exact himm b' ⟨b,(c,n),hi,List.mem_cons_of_mem _ (eU h2)⟩
theorem FP(hm:MemOk own g w m){id:Nat}{t:Ty}{l:List (ET F t)}(h:m id=some (.nrow t l)){g1:G}(hle:Le g w g1 w)(himm:∀b,g.blk id b→g1.imm b){v:Value}(hv:RepC (F:=F) g w (.wsl id) v):RepI w g1.imm (.sl t l) v:=by
 rcases aU hv with⟨hi,p,rfl⟩ | ⟨b,c,n,hi,h1,h2,rfl⟩
 ·obtain⟨pl,k1,k2⟩:=hm.ok id _ h;rw[hi]at k1;cases k1;have k2:l = []:=k2;subst k2;exact .sl0 t p
 ·obtain⟨k1,h4,h5,h7⟩:=Cn hm h hle himm hi;rw[k1];refine .sl t l b 0 c (λk=>(w.cell? ⟨b,k,none⟩).getD undef) (himm b (G.blk_main hi)) h4 h2 ?_ ?_
  ·intro k d hk;obtain⟨x,k1,k2⟩:=h7 k d hk;rw[Nat.zero_add,k1];rfl
  ·intro k d hk;obtain⟨x,k1,k2⟩:=h7 k d hk;rw[k1];exact k2
theorem IG(hm:MemOk own g w m){id:Nat}{t:Ty}{l:List (ET F t)}(h:m id=some (.row t l)){g1:G}(hle:Le g w g1 w)(himm:∀b,g.blk id b→g1.imm b){sz off n:Nat}(hsz:sz=szT F t){v:Value}(hv:RepC (F:=F) g w (.lsl id sz off n) v):RepI w g1.imm (.sl t (sub l off n)) v:=by
 subst hsz;rcases nP hv with⟨hi,rfl,rfl,p,rfl⟩ | ⟨b,c,len,q,hi,h1,h2,h3,h4,rfl⟩
 ·have:sub l 0 0 = []:=by simp[Fx.sub]
  rw[this];exact .sl0 t p
 ·obtain⟨rfl,h5,h7⟩:=bQ hm h hi
  have hlen:(sub l off n).length=n:=by simp only[Fx.sub,List.length_take,List.length_drop];omega
  have key:∀(k:Nat)(d:ND F),(cells F t (sub l off n))[k]? = some d→∃x,w.cell? ⟨b,q+k,none⟩=some x∧RepI w g1.imm d x:=by
   intro k d hk;rcases h3 with⟨h3,_⟩ | h3
   ·have h0:n=0:=by omega
    subst h0;simp[Fx.sub,cells]at hk
   ·subst h3;obtain⟨x,k1,k2⟩:=h7 _ _ (h_ hk);exact⟨x,k1,k2.le hle⟩
  have:=RepI.sl (F:=F) (w:=w) (imm:=g1.imm) t (sub l off n) b q (c - off) (λk=>(w.cell? ⟨b,q+k,none⟩).getD undef) (himm b (G.blk_main hi)) (by omega) (by omega)
   (λk d hk=>by obtain⟨x,k1,k2⟩:=key k d hk;rw[k1];rfl) (λk d hk=>by obtain⟨x,k1,k2⟩:=key k d hk;rw[k1];exact k2)
  rwa [hlen]at this
theorem CV(hm:MemOk own g w m)(hle:MLe mm m){x:Cel F}{d:ND F}{ids:List Nat}(h:celND mm x=some (d,ids)){g1:G}(hg:Le g w g1 w)(himm:∀id∈ids,∀b,g.blk id b→g1.imm b){v:Value}(hv:RepC g w x v):RepI w g1.imm d v:=by
 unfold celND at h;split at h
 ·cases h;exact(bT hv).le hg
 ·have hv:=za hm hle hv;simp only[resC]at hv;unfold wslND at h;split at h
  ·rename_i hrow;cases h
   exact Gb hm (hle _ _ hrow) hg (himm _ (by simp)) hv
  ·rename_i hrow;cases h
   exact FP hm (hle _ _ hrow) hg (himm _ (by simp)) hv
  ·rename_i hrow;cases h;exact(sZ hm (hle _ _ hrow) hv).le hg
  ·cases h
 ·split at h
  ·rename_i hrow;split at h
   ·rename_i hsz;cases h
    exact IG hm (hle _ _ hrow) hg (himm _ (by simp)) hsz hv
   ·cases h
  ·rename_i hrow;split at h
   ·rename_i hsz;cases h;exact(Dc hm (hle _ _ hrow) hsz hv).le hg
   ·cases h
  ·cases h
 ·cases h
def RwN(mm:Nat→Option (Blk F))(id:Nat):Prop:=∃t l,mm id=some (.row t l)∨mm id=some (.nrow t l)
theorem RwN.owned{id:Nat}(h:RwN mm id):∃B,mm id=some B∧B.owned=true:=by
 obtain⟨t,l,h | h⟩:=h<;>exact⟨_,h,rfl⟩
theorem B3{x:Cel F}{d:ND F}{ids:List Nat}(h:celND mm x=some (d,ids)):∀id∈ids,RwN mm id:=by
 unfold celND at h;split at h
 ·cases h;simp
 ·unfold wslND at h;split at h
  ·rename_i hrow;cases h;intro i hi;rw[LS]at hi;subst hi;exact⟨_,_,.inl hrow⟩
  ·rename_i hrow;cases h;intro i hi;rw[LS]at hi;subst hi;exact⟨_,_,.inr hrow⟩
  ·cases h;simp
  ·cases h
 ·split at h
  ·rename_i hrow;split at h
   ·cases h;intro i hi;rw[LS]at hi;subst hi;exact⟨_,_,.inl hrow⟩
   ·cases h
  ·split at h
   ·cases h;simp
   ·cases h
  ·cases h
 ·cases h
theorem ko{x:Cel F}{r:List (Cel F)}{ds:List (ND F)}{ids:List Nat}(h:bJ mm (x::r)=some (ds,ids)) :
  ∃d i ds' j,celND mm x=some (d,i)∧bJ mm r=some (ds',j)∧ds=d::ds'∧ids=i++j:=by
 simp only[bJ]at h;split at h
 ·cases h
 ·rename_i d i hd;split at h
  ·cases h
  ·rename_i ds' j hr;cases h;exact⟨d,i,ds',j,hd,hr,rfl,rfl⟩
theorem mV:∀{cs:List (Cel F)} {ds:List (ND F)} {ids:List Nat},bJ mm cs=some (ds,ids)→∀id∈ids,RwN mm id
 | [],ds,ids,h=>by simp only[bJ,Option.some.injEq]at h;cases h;simp
 | x::r,ds,ids,h=>by
  obtain⟨d,i,ds',j,h1,h2,rfl,rfl⟩:=ko h;intro id hid;rcases List.mem_append.1 hid with hid | hid
  ·exact B3 h1 id hid
  ·exact mV h2 id hid
theorem dQ:∀{cs:List (Cel F)} {ds:List (ND F)} {ids:List Nat},bJ mm cs=some (ds,ids)→ds.length=cs.length
 | [],ds,ids,h=>by simp only[bJ,Option.some.injEq]at h;cases h;rfl
 | x::r,ds,ids,h=>by obtain⟨d,i,ds',j,h1,h2,rfl,rfl⟩:=ko h;simp[dQ h2]
theorem ft(hm:MemOk own g w m)(hle:MLe mm m):∀{cs:List (Cel F)} {ds:List (ND F)} {ids:List Nat},bJ mm cs=some (ds,ids)→∀{g1:G},Le g w g1 w→(∀id∈ids,∀b,g.blk id b→g1.imm b)→
  ∀(vs:List Value),(∀(k:Nat)(x:Cel F)(v:Value),cs[k]? = some x→vs[k]? = some v→RepC g w x v)→∀(k:Nat)(d:ND F)(v:Value),ds[k]? = some d→vs[k]? = some v→RepI w g1.imm d v
 | [],ds,ids,h,g1,_,_,vs,_,k,d,v,hd,_=>by simp only[bJ,Option.some.injEq]at h;cases h;simp at hd
 | x::r,ds,ids,h,g1,hg,himm,vs,hr,k,d,v,hd,hv=>by
  obtain⟨d',i,ds',j,h1,h2,rfl,rfl⟩:=ko h
  match vs,hv with
  | [],hv=>simp at hv
  | u::us,hv=>
   cases k with
   | zero=>
    simp only[List.getElem?_cons_zero,Option.some.injEq]at hd hv;subst hd hv
    exact CV hm hle h1 hg (λid hid=>himm id (by simp[hid])) (hr 0 x u rfl rfl)
   | succ k=>
    exact ft hm hle h2 hg (λid hid=>himm id (by simp[hid])) us (λk x v a b=>hr (k+1) x v a b) k d v (by simpa using hd) (by simpa using hv)
def Fzl(mm:Nat→Option (Blk F))(ids:List Nat):Prop:=
 ∀id∈ids,RwN mm id∨(∃cs ds fz,mm id=some (.box cs)∧bJ mm cs=some (ds,fz)∧∀x∈fz,x∈ids)∨∃cs,mm id=some (.box cs)∧(0:Nat)=0
theorem Fzl.of_rows{ids:List Nat}(h:∀id∈ids,RwN mm id):Fzl mm ids:=λid hid=>.inl (h id hid)
theorem zh{ids:List Nat}{id:Nat}{t:Ty}{l:List (ET F t)}(h:mm id=some (.row t l)):frzB mm ids id=some (.fro t l):=by simp[frzB,h]
theorem Ci{ids:List Nat}{id:Nat}{t:Ty}{l:List (ET F t)}(h:mm id=some (.nrow t l)):frzB mm ids id=some (.fro t l):=by simp[frzB,h]
theorem zB{ids:List Nat}{id:Nat}{cs:List (Cel F)}{B:Blk F}(h:mm id=some (.box cs))(hB:frzB mm ids id=some B):∃ds fz,bJ mm cs=some (ds,fz)∧(∀x∈fz,x∈ids)∧B = .fbx ds:=by
 unfold frzB at hB;rw[h]at hB;dsimp only at hB;split at hB
 ·rename_i ds fz hc
  cases ha:fz.all (λx=>memN x ids)with
  | false=>rw[ha]at hB;cases hB
  | true=>rw[ha]at hB;cases hB;refine⟨ds,fz,hc,λx hx=>?_,rfl⟩;have:=List.all_eq_true.1 ha x hx;exact aF.1 this
 ·cases hB
theorem gc{ids:List Nat}{x:Nat}:updM m (frz mm ids) x=if x∈ids then frzB mm ids x else m x:=by
 unfold frz
 have gen:∀(B:Nat→Option (Blk F)) (ids:List Nat) (m:Nat→Option (Blk F)),updM m (ids.map λid=>(id,B id)) x=if x∈ids then B x else m x:=by
  intro B ids
  induction ids with
  | nil=>intro m;simp[updM]
  | cons i ids ih=>
   intro m;simp only[List.map_cons,updM,ih,List.mem_cons];by_cases h1:x∈ids
   ·simp[h1]
   ·by_cases h2:x=i
    ·subst h2;simp
    ·rw[am (λe=>h2 e.symm)];simp[h1,h2]
 exact gen (frzB mm ids) ids m
theorem freeze(hm:MemOk own g w m)(hle:MLe mm m){ids:List Nat}(hf:Fzl mm ids):MemOk own (g.fzs ids) w (updM m (frz mm ids)):=by
 refine hm.chg (S:=λid=>id∈ids) (pa g w ids) ?_ (λ_ _=>rfl) ?_ ?_ ?_ ?_ hm.len
 ·intro id hid B hB;rw[gc,if_neg hid]at hB;exact hB
 ·intro id B b hid hB ho hb;refine⟨rfl,?_⟩;rintro(hi | ⟨id',hid',hb'⟩)
  ·exact(hm.own id B b hB ho hb).2 hi
  ·have hid2:∃B',m id'=some B'∧B'.owned=true:=by
    rcases hf id' hid' with⟨t,l,h | h⟩ | ⟨cs,ds,fz,h,_⟩ | ⟨cs,h,_⟩
    ·exact⟨_,hle _ _ h,rfl⟩
    ·exact⟨_,hle _ _ h,rfl⟩
    ·exact⟨_,hle _ _ h,rfl⟩
    ·exact⟨_,hle _ _ h,rfl⟩
   obtain⟨B',h1,h2⟩:=hid2;have:=hm.dis id id' B B' b hB h1 ho h2 hb hb';subst this;exact hid hid'
 ·intro id B hid hB;rw[gc,if_pos hid]at hB
  have hf':RwN mm id∨∃cs,mm id=some (.box cs):=by
   rcases hf id hid with h | ⟨cs,ds,fz,h,_⟩ | ⟨cs,h,_⟩
   ·exact .inl h
   ·exact .inr ⟨_,h⟩
   ·exact .inr ⟨_,h⟩
  rcases hf' with⟨t,l,h | h⟩ | ⟨cs,h⟩
  ·rw[zh h]at hB;cases hB
   refine⟨?_,λb ho=>by cases ho⟩
   rcases hm.ok id _ (hle _ _ h)with⟨k1,k2⟩ | ⟨b,cap,cur,e,k1,k2,k3,k4,k5,k6⟩
   ·exact .inl ⟨k1,k2⟩
   ·obtain⟨_,h4,h7⟩:=bQ hm (hle _ _ h) k1
    refine .inr ⟨b,cap,[],k1,by simp[nbl],.inr ⟨id,hid,G.blk_main k1⟩,k3,k4,λk d hk=>?_⟩
    obtain⟨x,q1,q2⟩:=h7 k d hk;exact⟨x,q1,q2.le (pa g w ids)⟩
  ·rw[Ci h]at hB;cases hB
   refine⟨?_,λb ho=>by cases ho⟩
   obtain⟨pl,k1,k2⟩:=hm.ok id _ (hle _ _ h)
   cases pl with
   | none=>exact .inl ⟨k1,k2⟩
   | some q=>obtain⟨b,cap,n,ns⟩:=q;obtain⟨q1,q2,q3,q4⟩:=Cn hm (hle _ _ h) (pa g w ids) (λb hb=>.inr ⟨id,hid,hb⟩) k1;have q1:n=l.length:=q1;subst q1;exact .inr ⟨b,cap,ns,k1,λb' hb'=>.inr ⟨id,hid,b,_,k1,List.mem_cons_of_mem _ hb'⟩,.inr ⟨id,hid,G.blk_main k1⟩,q2,q3,q4⟩
  ·obtain⟨ds,fz,hc,hfz,rfl⟩:=zB h hB
   refine⟨?_,λb ho=>by cases ho⟩
   obtain⟨b,c,arr,t,k1,k2,k3,k4⟩:=hm.ok id _ (hle _ _ h);refine⟨b,c,k1,.inr ⟨id,hid,G.blk_main k1⟩,λk d hk=>?_⟩
   have hlt:k<arr.length:=by rw[k3,← dQ hc];exact(LQ.1 hk).1
   refine⟨arr[k],by simp[World.cell?,k2,hlt],?_⟩
   exact ft hm hle hc (pa g w ids) (λid' hid' b' hb'=>.inr ⟨id',hfz id' hid',hb'⟩) arr k4 k d _ hk (LP hlt)
 ·rintro b (hb | ⟨id,hid,hb⟩)
  ·exact hm.imm b hb
  ·rcases hf id hid with⟨t,l,h | h⟩ | ⟨cs,ds,fz,h,_⟩ | ⟨cs,h,_⟩
   ·exact(hm.ok id _ (hle _ _ h)).place hm.imm rfl hb
   ·exact(hm.ok id _ (hle _ _ h)).place hm.imm rfl hb
   ·exact(hm.ok id _ (hle _ _ h)).place hm.imm rfl hb
   ·exact(hm.ok id _ (hle _ _ h)).place hm.imm rfl hb
 ·rintro b (hb | ⟨id,hid,hb⟩)
  ·exact hm.io b hb
  ·rcases hf id hid with⟨t,l,h | h⟩ | ⟨cs,ds,fz,h,_⟩ | ⟨cs,h,_⟩
   ·exact .inr (hm.own id _ b (hle _ _ h) rfl hb).1
   ·exact .inr (hm.own id _ b (hle _ _ h) rfl hb).1
   ·exact .inr (hm.own id _ b (hle _ _ h) rfl hb).1
   ·exact .inr (hm.own id _ b (hle _ _ h) rfl hb).1
theorem JO(hle:MLe mm m){ids:List Nat}(hf:Fzl mm ids)(hs:Stp (updM m (frz mm ids)) (g.fzs ids) w g' w'):Stp m g w g' w':=by
 refine⟨(pa g w ids).trans hs.le,hs.os,hs.tape,hs.output,hs.size,λb hb hno=>hs.frame b hb (λid B hB ho hk=>?_),hs.drawn⟩;rw[gc]at hB;split at hB
 ·rename_i hid;rcases hf id hid with⟨t,l,h | h⟩ | ⟨cs,ds,fz,h,hc,_⟩ | ⟨cs,h,hc⟩
  ·rw[zh h]at hB;cases hB;cases ho
  ·rw[Ci h]at hB;cases hB;cases ho
  ·obtain⟨ds,fz,_,_,rfl⟩:=zB h hB;cases ho
  ·obtain⟨ds,fz,_,_,rfl⟩:=zB h hB;cases ho
 ·exact hno id B hB ho hk
theorem DV{u:Nat→Bool}{a:Act}{ids:List Nat}{res:Res F}(hle:MLe mm m)(hf:Fzl mm ids)(h:Outc P own (updM m (frz mm ids)) u (g.fzs ids) w o a c res) :
  Outc P own m u g w o a c { res with mw:=frz mm ids++res.mw }:=by
 intro next Q hn;refine h next Q ?_;intro v w' g' h1 h2 h3 h4
 exact hn v w' g' h1 (by rw[dw];exact h2) (JO hle hf h3) h4
def G.name(g:G)(id:Nat)(p:Pl):G:=⟨λx=>if x=id then some p else g.ids x,g.imm,g.len⟩
theorem aT(g:G)(id:Nat)(p:Pl):(g.name id p).ids id=some p:=by simp[G.name]
theorem bw(g:G)(id:Nat)(p:Pl){x:Nat}(h:x≠id):(g.name id p).ids x=g.ids x:=by simp[G.name,h]
theorem Le.name{id:Nat}{p:Pl}(hf:g.ids id=none)(hh:∀b,g.imm b→w'.heap[b]? = w.heap[b]?)(hL:∀b,g.len b→w'.heap[b]? = w.heap[b]?):Le g w (g.name id p) w':=by
 refine⟨?_,λ_ h=>h,hh,λ_ h=>h,hL⟩;intro x r hx;by_cases hxi:x=id
 ·subst hxi;rw[hf]at hx;cases hx
 ·rw[bw g id p hxi];exact hx
theorem sQ{rm:List Nat}{id:Nat}{B:Blk F}{x:Nat}(hx:x≠id){B':Blk F}(h:updM m (rm.map (λr=>(r,none))++[(id,some B)]) x=some B'):m x=some B'∧x∉rm:=by
 rw[sO,if_neg hx]at h
 have gen:∀(rm:List Nat)(m:Nat→Option (Blk F)),updM m (rm.map (λr=>(r,none))) x=some B'→m x=some B'∧x∉rm:=by
  intro rm
  induction rm with
  | nil=>intro m h;exact⟨h,by simp⟩
  | cons r rm ih=>
   intro m h;obtain⟨h1,h2⟩:=ih _ h;by_cases hr:r=x
   ·subst hr;rw[if_pos (aV r)]at h1;cases h1
   ·rw[if_neg (by rw[am hr];simp)]at h1
    exact⟨h1,λhx=>by rcases List.mem_cons.1 hx with h | h;exact hr h.symm;exact h2 h⟩
 exact gen rm m h
theorem gz(hm:MemOk own g w m){rm:List Nat}{id:Nat}{pl:Pl}{B:Blk F}(hf:g.ids id=none)
  (hpl:∀b0 c,pl=some (b0,c)→∀b∈b0::nbl c.2.2,(w.heap.size≤b∧b<w'.heap.size∧own.o b)∨∃r∈rm,∃B0,m r=some B0∧B0.owned=true∧g.blk r b)
  (ho:w'.os=w.os) (ht:w'.tape=w.tape) (hou:w'.output=w.output) (hdr:w.drawn≤w'.drawn) (hs:w.heap.size≤w'.heap.size)
  (hne:∀b,b<w.heap.size→(∀r∈rm,∀B0,m r=some B0→B0.owned=true→¬ g.blk r b)→w'.heap[b]? = w.heap[b]?)
  (hB:∀g',Le g w g' w'→g'.ids id=some pl→BlkOk g' w' id B) :
  MemOk own (g.name id pl) w' (updM m (rm.map (λr=>(r,none))++[(id,some B)]))∧Stp m g w (g.name id pl) w':=by
 have hle:Le g w (g.name id pl) w':=.name hf (λb hb=>hne b (hm.imm b hb) (λr _ B0 h1 h2 h3=>(hm.own r B0 b h1 h2 h3).2 hb)) (λb hb=>hne b (hm.len b hb).2 (λr _ B0 h1 h2 h3=>(hm.len b hb).1 (hm.own r B0 b h1 h2 h3).1));refine⟨?_,hle,ho,ht,hou,hs,λb hb hno=>hne b hb (λr _ B0 h1 h2=>hno r B0 h1 h2),hdr⟩;refine hm.chg (S:=λx=>x=id∨x∈rm) hle (λx hx B' h=>(sQ (λe=>hx (.inl e)) h).1) (λx hx=>bw _ _ _ (λe=>hx (.inl e))) ?_ ?_ (λb hb=>Nat.lt_of_lt_of_le (hm.imm b hb) hs) hm.io (λb hb=>⟨(hm.len b hb).1,Nat.lt_of_lt_of_le (hm.len b hb).2 hs⟩)
 ·intro x Bx b hx hB' ho' hb;refine⟨hne b ((hm.ok x Bx hB').place hm.imm (Blk.noAls ho') hb) ?_,(hm.own x Bx b hB' ho' hb).2⟩;intro r hr B0 h1 h2 h3;have:=hm.dis x r Bx B0 b hB' h1 ho' h2 hb h3;subst this;exact hx (.inr hr)
 ·intro x B' hx hB'
  have hxid:x=id:=by
   by_cases hxi:x=id
   ·exact hxi
   ·rcases hx with hx | hx
    ·exact hx
    ·exact absurd hx (sQ hxi hB').2
  subst hxid;rw[sO,if_pos rfl]at hB';cases hB';refine⟨hB _ hle (aT _ _ _),?_⟩;rintro b hob ⟨b0,c',hc',hbb⟩;rw[aT]at hc';cases hc';rcases hpl b0 c' rfl b hbb with⟨h1,h2,h3⟩ | ⟨r,hr,B0,h1,h2,h3⟩
  ·refine⟨h3,λhb=>?_,?_⟩
   ·have:b<w.heap.size:=hm.imm b hb;omega
   ·rintro y By hy hoy hby;by_cases hyx:y=x
    ·exact hyx
    ·have hby':g.blk y b:=by
      obtain⟨b1,c1,k1,k2⟩:=hby;rw[bw _ _ _ hyx]at k1;exact⟨b1,c1,k1,k2⟩
     have:=(hm.ok y By (sQ hyx hy).1).place hm.imm (Blk.noAls hoy) hby';omega
  ·refine⟨(hm.own r B0 b h1 h2 h3).1,(hm.own r B0 b h1 h2 h3).2,?_⟩;rintro y By hy hoy hby;by_cases hyx:y=x
   ·exact hyx
   ·have hby':g.blk y b:=by
     obtain⟨b1,c1,k1,k2⟩:=hby;rw[bw _ _ _ hyx]at k1;exact⟨b1,c1,k1,k2⟩
    obtain⟨q1,q2⟩:=sQ hyx hy;have:=hm.dis y r By B0 b q1 h1 hoy h2 hby' h3;subst this;exact absurd hr q2
theorem made(hm:MemOk own g w m){rm:List Nat}{id:Nat}{cn:Nat×Nat}{arr:List Value}{t:TypeId}{B:Blk F}(hf:g.ids id=none)(hown:own.o w.heap.size){w1:World}(hw1:w1.heap=w.heap)(ho:w1.os=w.os)(ht:w1.tape=w.tape)(hou:w1.output=w.output)(hdr:w.drawn≤w1.drawn)
  (hB:∀g' w',Le g w g' w'→g'.ids id=some (some (w.heap.size,cn.1,cn.2,[]))→w'.heap[w.heap.size]? = some (.cells ⟨arr⟩ t (0,0))→BlkOk g' w' id B) :
  MemOk own (g.name id (some (w.heap.size,cn.1,cn.2,[]))) (w1.alloc (.cells ⟨arr⟩ t)) (updM m (rm.map (λr=>(r,none))++[(id,some B)]))∧Stp m g w (g.name id (some (w.heap.size,cn.1,cn.2,[]))) (w1.alloc (.cells ⟨arr⟩ t)):=by
 have hold:∀b,b<w.heap.size→(w1.alloc (.cells ⟨arr⟩ t)).heap[b]? = w.heap[b]?:=by
  intro b hb
  have:=heap_alloc_old w1 (.cells ⟨arr⟩ t) b (by rw[hw1];exact hb)
  rw[this,hw1]
 have hnew:(w1.alloc (.cells ⟨arr⟩ t)).heap[w.heap.size]? = some (.cells ⟨arr⟩ t (0,0)):=by have:=heap_alloc_new w1 (.cells ⟨arr⟩ t);rw[hw1]at this;exact this
 have hsz:(w1.alloc (.cells ⟨arr⟩ t)).heap.size=w.heap.size+1:=by rw[World.size_alloc,hw1]
 refine gz hm hf ?_ ho ht hou hdr (by omega) (λb hb _=>hold b hb) (λg' hle hi=>hB g' _ hle hi hnew)
 intro b0 c e b hb;cases e;simp only[nbl,LS]at hb;subst hb
 exact .inl ⟨Nat.le_refl _,by omega,hown⟩
theorem moved(hm:MemOk own g w m){rm id b:Nat}{cn:Nat×Nat×NS}{cn':Nat×Nat}{w':World}{B0 B:Blk F}(hf:g.ids id=none)(h0:m rm=some B0)(ho0:B0.owned=true)(hi:g.ids rm=some (some (b,cn)))
  (ho:w'.os=w.os) (ht:w'.tape=w.tape) (hou:w'.output=w.output) (hdr:w.drawn≤w'.drawn) (hs:w'.heap.size=w.heap.size) (hne:∀b',b'≠b→w'.heap[b']? = w.heap[b']?)
  (hB:∀g',Le g w g' w'→g'.ids id=some (some (b,cn'.1,cn'.2,[]))→BlkOk g' w' id B) :
  MemOk own (g.name id (some (b,cn'.1,cn'.2,[]))) w' (updM m [(rm,none),(id,some B)])∧Stp m g w (g.name id (some (b,cn'.1,cn'.2,[]))) w':=by
 refine gz (rm:=[rm]) hm hf ?_ ho ht hou hdr (by omega) ?_ hB
 ·intro b0 c e b' hb;cases e;simp only[nbl,LS]at hb;subst hb
  exact .inr ⟨rm,by simp,B0,h0,ho0,G.blk_main hi⟩
 ·intro b' hb hno
  exact hne b' (λe=>hno rm (by simp) B0 h0 ho0 (e▸G.blk_main hi))
theorem H7(hm:MemOk own g w m){rm:List Nat}{id:Nat}{t:Ty}(hf:g.ids id=none) :
  MemOk own (g.name id none) w (updM m (rm.map (λr=>(r,none))++[(id,some (.row t []))]))∧Stp m g w (g.name id none) w:=by
 have hle:Le g w (g.name id none) w:=.name hf (λ_ _=>rfl) (λ_ _=>rfl)
 have less:∀x,x≠id→∀B',updM m (rm.map (λr=>(r,none))++[(id,some (.row t []))]) x=some B'→m x=some B':=by
  intro x hx B' h;rw[sO,if_neg hx]at h
  have gen:∀(rm:List Nat)(m:Nat→Option (Blk F)),updM m (rm.map (λr=>(r,none))) x=some B'→m x=some B':=by
   intro rm
   induction rm with
   | nil=>intro m h;exact h
   | cons r rm ih=>
    intro m h;have:=ih _ h;split at this
    ·cases this
    ·exact this
  exact gen rm m h
 refine⟨?_,hle,rfl,rfl,rfl,Nat.le_refl _,λ_ _ _=>rfl,Nat.le_refl _⟩;refine hm.chg (S:=λx=>x=id) hle less (λx hx=>bw _ _ _ hx) ?_ ?_ hm.imm hm.io hm.len
 ·intro x Bx b hx hB' ho' hb;exact⟨rfl,(hm.own x Bx b hB' ho' hb).2⟩
 ·rintro x B' rfl hB';rw[sO,if_pos rfl]at hB';cases hB';refine⟨.inl ⟨aT _ _ _,rfl⟩,?_⟩;rintro b _ ⟨b0,c',hc',_⟩;rw[aT]at hc';cases hc'
theorem CX(hm:MemOk own g w m){id b:Nat}{old arr:List Value}{t:TypeId}{B B':Blk F}(hB:m id=some B)(ho:B.owned=true)(hblk:g.blk id b)(hb:w.heap[b]? = some (.cells ⟨old⟩ t (0,0)))
  (hB':(w.setRow b ⟨arr⟩).heap[b]? = some (.cells ⟨arr⟩ t (0,0))→Le g w g (w.setRow b ⟨arr⟩)→BlkOk g (w.setRow b ⟨arr⟩) id B') :
  MemOk own g (w.setRow b ⟨arr⟩) (updM m [(id,some B')])∧Stp m g w g (w.setRow b ⟨arr⟩):=by
 have hne:∀b',b'≠b→(w.setRow b ⟨arr⟩).heap[b']? = w.heap[b']?:=λb' h=>setRow_other w b b' _ h;have hnimm:¬ g.imm b:=(hm.own id B b hB ho hblk).2;have hle:Le g w g (w.setRow b ⟨arr⟩):=⟨λ_ _ h=>h,λ_ h=>h,λb' hb'=>hne b' (λe=>hnimm (e▸hb')),λ_ h=>h,λb' hb'=>hne b' (λe=>(hm.len b' hb').1 (e▸(hm.own id B b hB ho hblk).1))⟩
 have less:∀x,x≠id→∀Bx,updM m [(id,some B')] x=some Bx→m x=some Bx:=by intro x hx Bx h;simp only[updM]at h;rw[am (λe=>hx e.symm)]at h;simpa using h
 refine⟨?_,hle,rfl,rfl,rfl,by simp,?_,Nat.le_refl _⟩
 ·refine hm.chg (S:=λx=>x=id) hle less (λ_ _=>rfl) ?_ ?_ ?_ hm.io (λb' hb'=>⟨(hm.len b' hb').1,by rw[size_setRow];exact(hm.len b' hb').2⟩)
  ·intro x Bx b' hx hBx hox hbx;refine⟨hne b' (λe=>hx ?_),(hm.own x Bx b' hBx hox hbx).2⟩;subst e;exact hm.dis x id Bx B b' hBx hB hox ho hbx hblk
  ·rintro x Bx rfl hBx;simp only[updM,aV,if_true,Option.some.injEq]at hBx;subst hBx;refine⟨hB' (setRow_heap w b _ _ t _ hb) hle,?_⟩;rintro b' hob hb';refine⟨(hm.own x B b' hB ho hb').1,(hm.own x B b' hB ho hb').2,?_⟩;intro y By hy hoy hby;by_cases hyx:y=x
   ·exact hyx
   ·exact hm.dis y x By B b' (less y hyx By hy) hB hoy ho hby hb'
  ·intro b' hb';rw[size_setRow];exact hm.imm b' hb'
 ·intro b' _ hno;exact hne b' (λe=>hno id B hB ho (e▸hblk))
theorem xQ(hm:MemOk own g w m){id b:Nat}{cn:Nat×Nat×NS}{old arr:List Value}{t:TypeId}{B B':Blk F}(hB:m id=some B)(ho:B.owned=true)(hi:g.ids id=some (some (b,cn)))(hb:w.heap[b]? = some (.cells ⟨old⟩ t (0,0)))
  (hB':(w.setRow b ⟨arr⟩).heap[b]? = some (.cells ⟨arr⟩ t (0,0))→Le g w g (w.setRow b ⟨arr⟩)→BlkOk g (w.setRow b ⟨arr⟩) id B') :
  MemOk own g (w.setRow b ⟨arr⟩) (updM m [(id,some B')])∧Stp m g w g (w.setRow b ⟨arr⟩):=CX hm hB ho (G.blk_main hi) hb hB'
end
set_option linter.unusedVariables false
set_option linter.unusedSimpArgs false
section
variable{F:Fam}{P:Program}{T:TypeId→Option (TI F)}{o:Oper}{vals:List (Dat F)}{mm:Nat→Option (Blk F)}{c:Nat}{R:Type}{K:Res F→Option R}{own:Ow}{g g':G}{w w':World}{m m':Nat→Option (Blk F)}{u:Nat→Bool}{a:Act}
theorem o_(hm:MemOk own g w m)(hd:∀id,u id=false→g.ids id=none)(hall:∀b,w.heap.size≤b→own.o b)(hfr:u c=false)
  {cn:Nat×Nat} {arr:List Value} {t:TypeId} {B:Blk F} {rm:List Nat} {d:Dat F} {w1:World} {v:Value} (hw1:w1.heap=w.heap) (ho:w1.os=w.os) (ht:w1.tape=w.tape) (hou:w1.output=w.output) (hdr:w.drawn≤w1.drawn)
  (hv:∀g' w',g'.ids c=some (some (w.heap.size,cn.1,cn.2,[]))→RepD P g' w' d v)
  (hB:∀g' w',Le g w g' w'→g'.ids c=some (some (w.heap.size,cn.1,cn.2,[]))→w'.heap[w.heap.size]? = some (.cells ⟨arr⟩ t (0,0))→BlkOk g' w' c B)
  (hrun:(execOp a.eval o).run P w = .ok (.value v) (w1.alloc (.cells ⟨arr⟩ t))):Outc P own m u g w o a c { val:=d,mw:=rm.map (λr=>(r,none))++[(c,some B)],nu:=1 }:=by
 have hf:g.ids c=none:=hd c hfr;obtain⟨k1,k2⟩:=made (rm:=rm) (cn:=cn) hm hf (hall _ (Nat.le_refl _)) hw1 ho ht hou hdr hB;intro next Q hn;unfold Oper.wp;rw[hrun];refine hn _ _ (g.name c (some (w.heap.size,cn.1,cn.2,[]))) (hv _ _ (aT _ _ _)) k1 k2 ?_;intro x hu hx;have hx:x<c∨c+1≤x:=hx
 have:x≠c:=by omega
 rw[bw _ _ _ this];exact hd x hu
theorem yk{imm:Nat→Prop}{cs ds:List (ND F)}(h:Les cs ds){arr:List Value}(hr:∀(k:Nat)(d:ND F)(x:Value),cs[k]? = some d→arr[k]? = some x→RepI w imm d x) :
  ∀(k:Nat)(d:ND F)(x:Value),ds[k]? = some d→arr[k]? = some x→RepI w imm d x:=by
 intro k d x hd hx
 have hlt:k<cs.length:=by rw[h.1];exact(LQ.1 hd).1
 exact(hr k _ x (LP hlt) hx).nle (h.2 k _ d (LP hlt) hd)
theorem mR{cs ds cs' ds':List (ND F)}(h:Les cs ds)(h':Les cs' ds'):Les (cs++cs') (ds++ds'):=by
 refine⟨by simp[h.1,h'.1],?_⟩
 intro k x y hx hy;by_cases hk:k<cs.length
 ·rw[List.getElem?_append_left hk]at hx
  rw[List.getElem?_append_left (by rw[← h.1];exact hk)]at hy
  exact h.2 k x y hx hy
 ·rw[List.getElem?_append_right (by omega)]at hx
  rw[List.getElem?_append_right (by rw[← h.1];omega),← h.1]at hy
  exact h'.2 _ x y hx hy
theorem oW{tt:Ty}{sz:Nat}(hs:szT F tt=sz):∀{n:Nat}{ds:List (ND F)} {l:List (ET F tt)},ku tt sz n ds=some l→ds.length=n*sz→l.length=n∧Les ds (cells F tt l)
 | 0,ds,l,h,hl=>by
  simp only[ku,Option.some.injEq]at h;subst h
  have:ds = []:=List.eq_nil_of_length_eq_zero (by simpa using hl)
  subst this
  exact⟨rfl,rfl,by simp⟩
 | n+1,ds,l,h,hl=>by
  simp only[ku]at h;split at h
  ·cases h
  ·rename_i x hx;split at h
   ·cases h
   ·rename_i r hr;cases h
    have hlen:(ds.drop sz).length=n*sz:=by rw[List.length_drop,hl,Nat.succ_mul];omega
    obtain⟨h1,h2⟩:=oW hs hr hlen
    refine⟨by simp[h1],?_⟩
    have:=mR (bG F hx) h2;rw[List.take_append_drop]at this;simpa[cells]using this
theorem He(hT:TblOk P T)(hm:MemOk own g w m)(hle:MLe mm m)(hd:∀id,u id=false→g.ids id=none)(hall:∀b,w.heap.size≤b→own.o b)(hfr:u c=false){elem:TypeId}{cs:List (Cel F)}{v:Value}
  (hl:v.cells.toList.length=cs.length) (hr:∀(k:Nat)(x:Cel F)(y:Value),cs[k]? = some x→v.cells.toList[k]? = some y→RepC g w x y)
  (hrun:(execOp a.eval o).run P w = .ok (.value (.pointer (some ⟨w.heap.size,0,none⟩))) (w.alloc (.cells v.cells elem))):Outc P own m u g w o a c { val:=.c (.ptr c 0),mw:=[(c,some (.box cs))],nu:=1 }:=by
 refine o_ (rm:=[]) (cn:=(0,0)) (arr:=v.cells.toList) (t:=elem) hm hd hall hfr (w1:=w) rfl rfl rfl rfl (Nat.le_refl _) (λg' w' hi=>.c (.ptr hi)) ?_ hrun;intro g' w' hle hi hh;exact⟨w.heap.size,(0,0),v.cells.toList,elem,hi,hh,hl,λk c x h1 h2=>(hr k c x h1 h2).le hle⟩
theorem B6(hT:TblOk P T){elem:TypeId}{cs:List (Cel F)}
  (hsrc:cs.all Cel.noAny=true→0<cs.length→∀(g:G)(w:World)(a:Act),RepDs P g w vals (o.op.operands.toList.map a.eval)→∃v:Value,v.cells.toList.length=cs.length∧
   (∀(k:Nat)(x:Cel F)(y:Value),cs[k]? = some x→v.cells.toList[k]? = some y→RepC g w x y)∧(execOp a.eval o).run P w = .ok (.value (.pointer (some ⟨w.heap.size,0,none⟩))) (w.alloc (.cells v.cells elem))) :
  Rule P o vals mm c K (tBox T mm c K elem cs):=by
 unfold tBox;split
 ·exact ad
 ·rename_i ti hti;refine au (λhc=>?_) (λ_=>ad);simp only[Bool.and_eq_true,decide_eq_true_eq,Nat.blt_eq]at hc;obtain⟨⟨h1,h2⟩,h3⟩:=hc;have src:=hsrc h2 h3
  have boxR:Rule P o vals mm c K (K { val:=.c (.ptr c 0),mw:=[(c,some (.box cs))],nu:=1 }):=by
   intro r hr;refine⟨_,hr,?_⟩;intro own g w a m u hle hm hd hall hfr hrep;obtain⟨v,k1,k2,k3⟩:=src g w a hrep
   exact He hT hm hle hd hall (hfr 0 (by simp)) k1 k2 k3
  split
  ·rename_i len e hde;split
   ·exact ad
   ·rename_i te hte;split
    ·exact ad
    ·rename_i tt htt;split
     ·exact ad
     ·rename_i ds fz hds;split
      ·exact ad
      ·rename_i l hl;refine au (λ_=>ad) (λhc=>?_);simp only[Bool.or_eq_true,decide_eq_true_eq,bne_iff_ne,ne_eq,not_or,Decidable.not_not,Bool.not_eq_true',List.isEmpty_iff]at hc;obtain⟨⟨⟨⟨c1,c2⟩,c3⟩,c4⟩,c5⟩:=hc
       have c4:=Nat.le_of_ble_eq_true (by simpa using c4)
       have c5:fz = []:=by simpa using c5
       subst c5;intro r hr;refine⟨_,hr,?_⟩;intro own g w a m u hle hm hd hall hfr hrep;obtain⟨v,k1,k2,k3⟩:=src g w a hrep;obtain⟨q1,q2⟩:=oW c3 hl c2
       refine o_ (rm:=[]) (cn:=(len,l.length)) (arr:=v.cells.toList) (t:=elem) hm hd hall (hfr 0 (by simp)) (w1:=w) rfl rfl rfl rfl (Nat.le_refl _) (λg' w' hi=>.c (.ptr hi)) ?_ k3
       intro g' w' hle' hi hh
       refine .inr ⟨w.heap.size,len,v.cells.toList,elem,hi,hh,by omega,by simp only[maxLen];omega,?_,?_⟩
       ·rw[k1,← dQ hds,c2,c3]
       ·intro k d x h4 h5
        exact(yk q2 (ft hm hle hds (Le.refl g w) (by simp) v.cells.toList k2) k d x h4 h5).le hle'
  ·exact boxR
theorem FV(hT:TblOk P T){elem:TypeId}(ho:o.op = .alloc elem):Rule P o vals mm c K (match T elem with | some ti=>tBox T mm c K elem (ti.zero.map .im) | none=>none):=by
 split
 ·rename_i ti hti;refine B6 hT ?_;intro _ _ g w a _;obtain⟨j,z,hj,hz,hzl,hzr⟩:=Ab hT hti
  exact⟨z,hzl,hzr w g,by simp[execOp,ho,Instr.alloc,zeroValue,typeInfo,hj,hz,newVar,newRow]⟩
 ·exact ad
theorem Ho(hT:TblOk P T){elem:TypeId}{x:Operand}(ho:o.op = .box elem x):Rule P o vals mm c K (match vals with | [x]=>tBox T mm c K elem x.cells | _=>none):=by
 split
 ·rename_i d;refine B6 hT ?_;intro h1 h2 g w a hr;rw[ho]at hr;obtain⟨k1,k2,_⟩:=jn (reps1 hr) h1 h2
  exact⟨a.eval x,k1,k2,by simp[execOp,ho,Instr.box,newVar,newRow]⟩
 ·exact ad
theorem cV{α : Type}(l:List α)(h0:0<l.length):∀(n k:Nat),k<n*l.length→(List.replicate n l).flatten[k]? = l[k % l.length]?
 | 0,k,h=>by omega
 | n+1,k,h=>by
  simp only[List.replicate_succ,List.flatten_cons];by_cases hk:k<l.length
  ·rw[List.getElem?_append_left hk,Nat.mod_eq_of_lt hk]
  ·have hb:k - l.length<n*l.length:=by rw[Nat.succ_mul]at h;omega
   rw[List.getElem?_append_right (by omega),cV l h0 n (k - l.length) hb]
   congr 1
   exact(Nat.mod_eq_sub_mod (by omega)).symm
theorem tc(hT:TblOk P T){e:TypeId}{te:TI F}(he:T e=some te)(h0:0<te.size)(n:Nat):∃(j:TypeInfo)(z:Value),P.info? e=some j∧j.size=te.size∧j.bytes=te.bytes∧j.zero=some z∧z.cells.size=te.size∧
  (madeCells z.cells (n*te.size)).toList.length=(List.replicate n te.zero).flatten.length∧te.zero.length=te.size∧
  ∀(w:World)(imm:Nat→Prop)(k:Nat)(d:ND F) (x:Value),(List.replicate n te.zero).flatten[k]? = some d→(madeCells z.cells (n*te.size)).toList[k]? = some x→RepI w imm d x:=by
 obtain⟨j,hj,hs,hb,z,hz,hzs,hzl,hr⟩:=hT.info e te he
 have hfl:(List.replicate n te.zero).flatten.length=n*te.size:=by
  rw[uK (sz:=te.size) (λx hx=>by rw[List.mem_replicate]at hx;rw[hx.2,hzl])]
  simp
 refine⟨j,z,hj,hs,hb,hz,hzs,by rw[hfl];simp[madeCells],hzl,?_⟩
 intro w imm k d x h1 h2
 have hk:k<n*te.size:=by rw[← hfl];exact(LQ.1 h1).1
 rw[cV te.zero (by omega) n k (by rw[hzl];exact hk),hzl]at h1
 simp only[madeCells,Array.toList_map,List.getElem?_map,Array.toList_range]at h2;rw[List.getElem?_range hk]at h2;simp only[Option.map_some,Option.some.injEq]at h2
 have hlt:k % te.size<z.cells.size:=by rw[hzs];exact Nat.mod_lt _ h0
 rw[hzs,getElem!_pos z.cells (k % te.size) hlt]at h2
 exact hr w imm (k % te.size) d x h1 (by rw[Array.getElem?_eq_getElem hlt,h2])
theorem Lg{α : Type}{b:Nat}{n m:Int}{z:α}{r:List α}(h:mkl b n m z=some r):0≤n∧n≤m∧m.toNat≤maxLen∧b*m.toNat≤281474976710656∧r=List.replicate n.toNat z:=by
 unfold mkl at h;split at h
 ·rename_i hc;cases h;exact⟨hc.1,hc.2.1,hc.2.2.1,hc.2.2.2,rfl⟩
 ·cases h
theorem BV(hT:TblOk P T){t:TypeId}{x y:Operand}(ho:o.op = .makeSlice t x y):Rule P o vals mm c K (tMake T vals c K t):=by
 unfold tMake;split
 ·rename_i e _ _ _ _ _ ht;split
  ·exact ad
  ·rename_i te hte;split
   ·exact ad
   ·rename_i tt htt;refine au (λ_=>ad) (λhz0=>?_);split
    ·rename_i k n k' n' zz hzz;refine ax λl hl=>?_;obtain⟨v1,v2,v3,v4,rfl⟩:=Lg hl;intro r hr;refine⟨_,hr,?_⟩;intro own g w a m u hle hm hd hall hfr hrep;rw[ho]at hrep;simp only[Op.operands,List.map_cons,List.map_nil]at hrep;obtain⟨h1,h2⟩:=reps2 hrep
     obtain⟨j,z,hj,hs,hb,hz,hzs,hml,hzl,hmr⟩:=tc hT hte (by omega) n'.toNat
     have hn:(n'.toNat:Int)=n':=Int.toNat_of_nonneg (by omega)
     have hb6:(j.bytes:Int)*n'≤281474976710656:=by rw[hb,← hn,← Int.natCast_mul];omega
     have hm63:n'≤9223372036854775807:=by have h:=v3;simp only[maxLen]at h;omega
     have hrun:=run_make (P:=P) w t e j z (hT.und _ _ ht) hj hz k k' n n' v1 v2 hb6 hm63;rw[hs]at hrun;have hsz:=hT.ty e te tt hte htt
     refine o_ (rm:=[]) (cn:=(n'.toNat,n.toNat)) (arr:=(madeCells z.cells (n'.toNat*te.size)).toList) (t:=e) hm hd hall (hfr 0 (by simp)) (w1:=w) rfl rfl rfl rfl (Nat.le_refl _) ?_ ?_ (v:=.slice (some ⟨w.heap.size,0,none⟩) n.toNat n'.toNat) ?_
     ·intro g' w' hi
      exact .c (.wsl hi (by omega) v3)
     ·intro g' w' hle' hi hh
      refine .inr ⟨w.heap.size,n'.toNat,_,e,by simpa using hi,hh,by simp;omega,v3,by simp[madeCells,hsz],?_⟩
      have hz2:Les te.zero (encT F tt zz):=bG F hzz;intro k d x h3 h4
      have hlen:(cells F tt (List.replicate n.toNat zz)).length=n.toNat*szT F tt:=by rw[ay,List.length_replicate]
      have hk:k<n.toNat*szT F tt:=by rw[← hlen];exact(LQ.1 h3).1
      have hlz:(encT F tt zz).length=te.size:=by rw[aN,hsz]
      have e1:(cells F tt (List.replicate n.toNat zz))=(List.replicate n.toNat (encT F tt zz)).flatten:=by simp[cells]
      rw[e1,cV _ (by rw[hlz];omega) n.toNat k (by rw[hlz,← hsz];exact hk),hlz]at h3
      have hk2:k<n'.toNat*te.zero.length:=by
       rw[hzl];rw[hsz]at hk
       have:n.toNat*te.size≤n'.toNat*te.size:=Nat.mul_le_mul_right _ (by omega)
       omega
      have hk3:k % te.size<te.zero.length:=by rw[hzl];exact Nat.mod_lt _ (by omega)
      have e2:(List.replicate n'.toNat te.zero).flatten[k]? = some te.zero[k % te.size]:=by
       rw[cV te.zero (by omega) n'.toNat k hk2,hzl,LP hk3]
      exact(hmr _ _ k _ x e2 h4).nle (hz2.2 (k % te.size) _ d (LP hk3) h3)
     ·simp only[execOp,ho,bE h1,bE h2,Sem.run_bind,hrun,Result.andThen_ok,Sem.run_pure]
    ·exact ad
 ·exact ad
theorem FS{t:TypeId}{x y:Operand}{n:Nat}(h:uh T t x y=some n):∃ti e k1 k2 b d q z,T t=some ti∧ti.desc = .slice e∧x = .const (.int k1 n)∧y = .const (.int k2 n)∧T e=some ⟨.slice d,1,b,[.nl],q,z⟩∧0<n∧n≤8∧b≤1000:=by
 unfold uh at h;split at h
 ·rename_i e _ _ _ _ _ n' m' ht hx hy;split at h
  ·rename_i d b q z he;split at h
   ·rename_i hc;obtain⟨rfl,h1,h2,h3⟩:=hc;cases h
    have lit:∀{x:Operand}{n:Nat},litN x=some n→∃k,x = .const (.int k n):=by
     intro x n hx;unfold litN at hx;split at hx
     ·cases hx;exact⟨_,rfl⟩
     ·cases hx
    obtain⟨k1,e1⟩:=lit hx;obtain⟨k2,e2⟩:=lit hy;exact⟨_,e,k1,k2,b,d,q,z,ht,rfl,e1,e2,he,h1,h2,h3⟩
   ·cases h
  ·cases h
 ·cases h
theorem Fj(hT:TblOk P T){t:TypeId}{x y:Operand}(ho:o.op = .makeSlice t x y){n:Nat}(hn:uh T t x y=some n):Rule P o vals mm c K (GI c K n):=by
 obtain⟨ti,e,k1,k2,b,d,q,zz,ht,hde,rfl,rfl,hte,n1,n2,n3⟩:=FS hn;have hu:=hT.und _ _ ht;rw[hde]at hu;intro r hr;refine⟨_,hr,?_⟩;intro own g w a m u hle hm hd hall hfr hrep
 obtain⟨j,z,hj,hs,hb,hz,hzs,hml,hzl,hmr⟩:=tc hT hte (by simp) n
 have hs:j.size=1:=hs;have hb:j.bytes=b:=hb
 have hb6:(j.bytes:Int)*(n:Int)≤281474976710656:=by rw[hb,← Int.natCast_mul];have:b*n≤1000*8:=Nat.mul_le_mul n3 n2;omega
 have hrun:=run_make (P:=P) w t e j z hu hj hz k1 k2 n n (by omega) (Int.le_refl _) hb6 (by omega)
 rw[hs]at hrun;simp only[Int.toNat_natCast,Nat.mul_one]at hrun
 have hml':(madeCells z.cells n).toList.length=n:=by simp[madeCells]
 refine o_ (rm:=[]) (cn:=(0,0)) (arr:=(madeCells z.cells n).toList) (t:=e) hm hd hall (hfr 0 (by simp)) (w1:=w) rfl rfl rfl rfl (Nat.le_refl _) ?_ ?_ (v:=.slice (some ⟨w.heap.size,0,none⟩) n n) ?_
 ·intro g' w' hi
  exact .c (.bsl hi (by simp only[maxLen];omega))
 ·intro g' w' hle' hi hh
  refine⟨w.heap.size,(0,0),_,e,hi,hh,by rw[hml'];simp,?_⟩
  intro k cc v h1 h2;rw[List.getElem?_replicate]at h1;split at h1
  ·rename_i hk;cases h1
   have e2:(List.replicate n ([.nl]:List (ND F))).flatten[k]? = some .nl:=by
    rw[cV _ (by simp) n k (by simpa using hk)]
    simp[Nat.mod_one]
   have:=hmr w' g'.imm k .nl v e2 (by simpa using h2)
   exact .im this
  ·cases h1
 ·simp only[execOp,ho,Sem.run_bind,Act.eval,hrun,Result.andThen_ok,Sem.run_pure]
theorem uE(hT:TblOk P T){t:TypeId}{len:Nat}{parts:Array (Nat×Operand)}(ho:o.op = .buildSlice t len parts){el:TypeId}{i te:TI F}(ht:T t=some i)(hde:i.desc = .slice el)(hte:T el=some te)(hs0:¬ te.size=0)(hs1:¬ 1048576<len*te.size){cs:List (Cel F)}
  (hcs:lay (λi=>some (i*te.size,te.size)) ((List.replicate len te.zero).flatten.map .im) ((parts.toList.map (·.1)).zip vals)=some cs) (hrep:RepDs P g w vals (o.op.operands.toList.map a.eval)) :
  ∃arr:List Value,arr.length=cs.length∧(∀(k:Nat)(c:Cel F)(x:Value),cs[k]? = some c→arr[k]? = some x→RepC g w c x)∧(execOp a.eval o).run P w = .ok (.value (.slice (some ⟨w.heap.size,0,none⟩) len len)) (w.alloc (.cells ⟨arr⟩ el)):=by
 rw[ho]at hrep
 have hrep':RepDs P g w vals (parts.toList.map λp=>a.eval p.2):=by
  have:(Op.buildSlice t len parts).operands.toList.map a.eval=parts.toList.map λp=>a.eval p.2:=by simp[Op.operands,Function.comp_def]
  rwa [this]at hrep
 have h0:0<te.size:=by omega
 obtain⟨j,z,hj,hs,hb,hz,hzs,hml,hzl,hmr⟩:=tc hT hte h0 len;obtain⟨p1,p2⟩:=xH parts.toList vals hrep';obtain⟨arr,r1,r2,r3,r4⟩:=zd (P:=P) (g:=g) (w:=w) (λi=>some (i*te.size,te.size)) _ (parts.toList.map λ(i,x)=>(i,a.eval x)) _ cs (madeCells z.cells (len*te.size)).toList hcs p1 p2
  (by rw[hml,List.length_map]) (by intro k c x h1 h2;obtain⟨d,hd',rfl⟩:=fu h1;exact .im (hmr w g.imm k d x hd' h2))
 have hrun:(execOp a.eval o).run P w = .ok (.value (.slice (some ⟨w.heap.size,0,none⟩) len len)) (w.alloc (.cells ⟨arr⟩ el)):=by
  have hu:=hT.und _ _ ht;rw[hde]at hu;have hu:=run_underlying hu w;have hsz:=bi hT hte w
  have hfill:Instr.fill (λi=>some (i*te.size,te.size)) (madeCells z.cells (len*te.size)) (parts.map λ(i,x)=>(i,a.eval x)).toList=some ⟨arr⟩:=by simpa using r1
  unfold madeCells at hfill
  have hzv:(zeroValue el).run P w = .ok z w:=by simp[zeroValue,typeInfo,hj,hz]
  have hbig:¬ (16777216<len*te.size):=by omega
  by_cases hz0:len*te.size=0
  ·have hl0:len=0:=by
    rcases Nat.mul_eq_zero.1 hz0 with h | h
    ·exact h
    ·omega
   subst hl0
   have e0:∀z0:Array Value,(Array.range (0*te.size)).map (λx=>z0[x % z0.size]!) = #[]:=λz0=>by simp
   rw[e0]at hfill;simp only[execOp,ho,Instr.buildSlice,Sem.run_bind,hu,Result.andThen_ok,hsz]
   rw[if_neg (by simp),if_pos hz0]
   simp only[Sem.run_pure,Result.andThen_ok,e0,hfill,newRow,Sem.run_bind,run_newObj,World.alloc_eq]
  ·simp only[execOp,ho,Instr.buildSlice,Sem.run_bind,hu,Result.andThen_ok,hsz]
   rw[if_neg (by simpa using hbig),if_neg hz0]
   simp only[Sem.run_bind,hzv,Result.andThen_ok,Sem.run_pure,hfill,newRow,run_newObj,World.alloc_eq]
 exact⟨arr,r2,r4,hrun⟩
theorem zV(hT:TblOk P T){t:TypeId}{len:Nat}{parts:Array (Nat×Operand)}(ho:o.op = .buildSlice t len parts):Rule P o vals mm c K (tx T vals mm c K t len (parts.toList.map (·.1))):=by
 unfold tx;split
 ·rename_i el sz bt zero _ _ ht;split
  ·exact ad
  ·rename_i te hte;split
   ·exact ad
   ·rename_i tt htt;refine au (λ_=>ad) (λhsm=>?_);simp only[Bool.or_eq_true,decide_eq_true_eq,not_or,Nat.blt_eq,bne_iff_ne,ne_eq,Decidable.not_not]at hsm;obtain⟨⟨hs0,hs1⟩,hsz⟩:=hsm;split
    ·exact ad
    ·rename_i cs hcs;split
     ·exact ad
     ·rename_i ds fz hds;split
      ·exact ad
      ·rename_i l hl;refine au (λhc=>?_) (λ_=>ad);simp only[Bool.and_eq_true,decide_eq_true_eq]at hc;obtain⟨hlen,_⟩:=hc;intro r hr;refine⟨_,hr,?_⟩;intro own g w a m u hle hm hd hall hfr hrep;have hf:Fzl mm fz:=Fzl.of_rows (mV hds);refine DV (res:={ val:=.c (.wsl c),mw:=[(c,some (.row tt l))],nu:=1 }) hle hf ?_;have hm1:=freeze hm hle hf
       have h0:0<te.size:=by omega
       obtain⟨arr,r2,r4,hrun⟩:=uE hT ho ht rfl hte hs0 hs1 hcs hrep;obtain⟨q1,q2⟩:=oW hsz hl hlen;have hcell:=ft hm hle hds (pa g w fz) (λid hid b hb=>.inr ⟨id,hid,hb⟩) arr r4
       have hml':len≤maxLen:=by have:len≤len*te.size:=Nat.le_mul_of_pos_right _ h0;simp only[maxLen];omega
       refine o_ (rm:=[]) (cn:=(len,len)) (arr:=arr) (t:=el) hm1 hd hall (hfr 0 (by simp)) (w1:=w) rfl rfl rfl rfl (Nat.le_refl _) (λg' w' hi=>.c (.wsl hi (Nat.le_refl _) hml')) ?_ hrun
       intro g' w' hle' hi hh
       refine .inr ⟨w.heap.size,len,arr,el,by rw[q1];exact hi,hh,by omega,hml',?_,?_⟩
       ·rw[r2,← dQ hds,hlen,hsz]
       ·intro k d x h1 h2;exact(yk q2 hcell k d x h1 h2).le hle'
 ·exact ad
def npl(g:G):Option Nat→Option (Nat×Nat×Nat)
 | some id=>match g.ids id with
  | some (some (b,c,n,_))=>some (b,c,n)
  | _=>none
 | none=>none
theorem JD{id b:Nat}{c:Nat×Nat}(h:npl g (some id)=some (b,c)):g.blk id b:=by
 simp only[npl]at h;split at h
 ·rename_i h1;cases h;exact G.blk_main h1
 ·cases h
theorem It(hm:MemOk own g w m){id:Nat}{t:Ty}{l:List (ET F t)}(h:m id=some (.row t l)):bv w g.imm t l (lift1 (npl g (some id))):=by
 rcases hm.ok id _ h with⟨h1,h2⟩ | ⟨b,cap,cur,e,k1,k2,k3,k4,k5,k6⟩
 ·simp[npl,h1,lift1,bv,h2]
 ·have:npl g (some id)=some (b,cap,l.length):=by simp[npl,k1]
  rw[this];exact⟨rfl,k3,k4,cur,e,k2,k5,k6⟩
theorem HI(hm:MemOk own g w m){id:Nat}{t:Ty}{l:List (ET F t)}(h:m id=some (.row t l)){v:Value}(hv:RepC (F:=F) g w (.wsl id) v):OwnV (lift1 (npl g (some id))) v:=by
 rcases aU hv with⟨hi,p,rfl⟩ | ⟨b,c,n,hi,h1,h2,rfl⟩
 ·simp[npl,hi,lift1,OwnV]
 ·obtain⟨rfl,_,_⟩:=bQ hm h hi;simp[npl,hi,lift1,OwnV]
theorem yX:∀{cs:List (Cel F)} {ds:List (ND F)} {os:List (Option Nat)},lE mm cs=some (ds,os)→ds.length=cs.length∧os.length=cs.length∧∀(k:Nat)(c:Cel F)(d:ND F)(o:Option Nat),cs[k]? = some c→ds[k]? = some d→os[k]? = some o→
  (∃id t l,c = .wsl id∧mm id=some (.row t l)∧d = .sl t l∧o=some id)∨(c = .im .nl∧d = .nl∧o=none)∨(c = .im d∧d.flat=true∧o=none)
 | [],ds,os,h=>by
  simp only[lE,Option.some.injEq,Prod.mk.injEq]at h;obtain⟨rfl,rfl⟩:=h
  exact⟨rfl,rfl,λk c d o h=>by simp at h⟩
 | c::r,ds,os,h=>by
  have next:∀{d':ND F}{o':Option Nat}{ds':List (ND F)} {os':List (Option Nat)},lE mm r=some (ds',os')→
    ((∃id t l,c = .wsl id∧mm id=some (.row t l)∧d' = .sl t l∧o'=some id)∨(c = .im .nl∧d' = .nl∧o'=none)∨(c = .im d'∧d'.flat=true∧o'=none))→
    (d'::ds').length=(c::r).length∧(o'::os').length=(c::r).length∧∀(k:Nat)(c0:Cel F)(d:ND F)(o:Option Nat),(c::r)[k]? = some c0→(d'::ds')[k]? = some d→(o'::os')[k]? = some o→
     (∃id t l,c0 = .wsl id∧mm id=some (.row t l)∧d = .sl t l∧o=some id)∨(c0 = .im .nl∧d = .nl∧o=none)∨(c0 = .im d∧d.flat=true∧o=none):=by
   intro d' o' ds' os' h1 h2;obtain⟨k1,k2,k3⟩:=yX h1
   refine⟨by simp[k1],by simp[k2],?_⟩
   intro k c0 d o q1 q2 q3
   cases k with
   | zero=>simp only[List.getElem?_cons_zero,Option.some.injEq]at q1 q2 q3;subst q1 q2 q3;exact h2
   | succ k=>exact k3 k c0 d o (by simpa using q1) (by simpa using q2) (by simpa using q3)
  unfold lE at h;split at h
  ·rename_i heq;cases heq
  ·rename_i id r' heq;cases heq;split at h
   ·rename_i t l hrow;split at h
    ·rename_i ds' os' hr;cases h;exact next hr (.inl ⟨id,t,l,rfl,hrow,rfl,rfl⟩)
    ·cases h
   ·cases h
  ·rename_i r' heq;cases heq;split at h
   ·rename_i ds' os' hr;cases h;exact next hr (.inr (.inl ⟨rfl,rfl,rfl⟩))
   ·cases h
  ·rename_i d r' hnn heq;cases heq;split at h
   ·rename_i hf;split at h
    ·rename_i ds' os' hr;cases h;exact next hr (.inr (.inr ⟨rfl,hf,rfl⟩))
    ·cases h
   ·cases h
  ·cases h
theorem uR{x:Nat}:∀{l:List (Option Nat)},x∈somes l↔some x∈l
 | []=>by simp[somes]
 | none::l=>by simp[somes,uR (l:=l)]
 | some y::l=>by simp[somes,uR (l:=l)]
theorem wQ(hm:MemOk own g w m):∀{os:List (Option Nat)},cA (somes os)=true→(∀id,some id∈os→∃B,m id=some B∧B.owned=true)→(nbl (os.map (npl g))).Nodup∧∀b∈nbl (os.map (npl g)),∃id,some id∈os∧g.blk id b
 | [],_,_=>⟨List.nodup_nil,λb hb=>by simp[nbl]at hb⟩
 | none::os,hn,ho=>by
  obtain⟨h1,h2⟩:=wQ hm (os:=os) (by simpa[somes]using hn) (λid hid=>ho id (by simp[hid]))
  refine⟨by simpa[npl,nbl]using h1,λb hb=>?_⟩
  obtain⟨id,q1,q2⟩:=h2 b (by simpa[npl,nbl]using hb)
  exact⟨id,by simp[q1],q2⟩
 | some id::os,hn,ho=>by
  simp only[somes,cA,Bool.and_eq_true,Bool.not_eq_true']at hn
  obtain⟨h1,h2⟩:=wQ hm (os:=os) hn.2 (λid hid=>ho id (by simp[hid]))
  simp only[List.map_cons]
  cases hp:npl g (some id)with
  | none=>
   refine⟨by simpa[nbl]using h1,λb hb=>?_⟩
   obtain⟨id,q1,q2⟩:=h2 b (by simpa[nbl]using hb)
   exact⟨id,by simp[q1],q2⟩
  | some q=>
   obtain⟨b0,c0⟩:=q;have hb0:=JD hp;refine⟨?_,?_⟩
   ·simp only[nbl,List.nodup_cons];refine⟨λhb=>?_,h1⟩;obtain⟨id',q1,q2⟩:=h2 b0 hb
    obtain⟨B,r1,r2⟩:=ho id (by simp)
    obtain⟨B',r3,r4⟩:=ho id' (by simp[q1])
    have:=hm.dis id id' B B' b0 r1 r3 r2 r4 hb0 q2;subst this;have:=aF.2 (uR.2 q1);rw[this]at hn;cases hn.1
   ·intro b hb;simp only[nbl,List.mem_cons]at hb;rcases hb with rfl | hb
    ·exact⟨id,by simp,hb0⟩
    ·obtain⟨id,q1,q2⟩:=h2 b hb
     exact⟨id,by simp[q1],q2⟩
theorem Jg{t:Ty}{c:ND F}{x:ET F t}(h:dec1 F t c=some x):enc1 F t x≠.nl:=by
 unfold dec1 at h
 split at h<;>first | (intro e;cases e;done) | cases h
theorem EY:∀{ts:List Ty}{cs:List (ND F)} {a:TupT F ts},decF F ts cs=some a→∀d∈encF F ts a,d≠.nl
 | [],cs,a,h,d,hd=>by simp[encF]at hd
 | t::r,cs,a,h,d,hd=>by
  cases cs with
  | nil=>simp[decF]at h
  | cons c cs=>
   simp only[decF]at h;split at h
   ·cases h
   ·rename_i x hx;split at h
    ·cases h
    ·rename_i y hy;cases h;rcases List.mem_cons.1 hd with rfl | hd
     ·exact Jg hx
     ·exact EY hy d hd
theorem uu{t:Ty}{cs:List (ND F)}{x:ET F t}(h:decT F t cs=some x):∀d∈encT F t x,d≠.nl:=by
 unfold decT at h;split at h
 ·split at h
  ·cases h
  ·rename_i a ha;cases h;simp only[encT,F.um];exact EY ha
 all_goals first | (intro d hd;simp only[encT,LS]at hd;subst hd;intro e;cases e;done) | cases h
theorem Hb{imm:Nat→Prop}{d d':ND F}{x:Value}(hf:d.flat=true)(hl:NLe d d')(h:RepI w imm d x):OwnC w imm d' x none:=by
 cases hl with
 | refl=>
  cases d with
  | sl t' l'=>cases hf
  | _=>exact⟨rfl,hf,h⟩
 | nl t'=>cases hf
theorem Cc{tt:Ty}{sz:Nat}:∀{n:Nat}{ds:List (ND F)} {l:List (ET F tt)},ku tt sz n ds=some l→∀d∈cells F tt l,d≠.nl
 | 0,ds,l,h,d,hd=>by simp only[ku,Option.some.injEq]at h;subst h;simp[cells]at hd
 | n+1,ds,l,h,d,hd=>by
  simp only[ku]at h;split at h
  ·cases h
  ·rename_i x hx;split at h
   ·cases h
   ·rename_i r hr;cases h;simp only[cells,List.map_cons,List.flatten_cons,List.mem_append]at hd;rcases hd with hd | hd
    ·exact uu hx d hd
    ·exact Cc hr d hd
theorem zo(hT:TblOk P T){t:TypeId}{len:Nat}{parts:Array (Nat×Operand)}(ho:o.op = .buildSlice t len parts):Rule P o vals mm c K (rQ T vals mm c K t len (parts.toList.map (·.1))):=by
 unfold rQ;split
 ·rename_i el sz bt zero _ _ ht;split
  ·exact ad
  ·rename_i te hte;split
   ·exact ad
   ·rename_i tt htt;refine au (λ_=>ad) (λhsm=>?_);simp only[Bool.or_eq_true,decide_eq_true_eq,not_or,Nat.blt_eq,bne_iff_ne,ne_eq,Decidable.not_not]at hsm;obtain⟨⟨hs0,hs1⟩,hsz⟩:=hsm;split
    ·exact ad
    ·rename_i cs hcs;split
     ·exact ad
     ·rename_i ds os hds;split
      ·exact ad
      ·rename_i l hl;refine au (λhc=>?_) (λ_=>ad);simp only[Bool.and_eq_true,decide_eq_true_eq]at hc;obtain⟨hlen,hnd⟩:=hc;intro r hr;refine⟨_,hr,?_⟩;intro own g w a m u hle hm hd hall hfr hrep
       have h0:0<te.size:=by omega
       obtain⟨arr,r2,r4,hrun⟩:=uE hT ho ht rfl hte hs0 hs1 hcs hrep;obtain⟨q1,q2⟩:=oW hsz hl hlen
       have hml':len≤maxLen:=by have:len≤len*te.size:=Nat.le_mul_of_pos_right _ h0;simp only[maxLen];omega
       obtain⟨n1,n2,n3⟩:=yX hds
       have hrows:∀id,some id∈os→∃t l,m id=some (.row t l):=by
        intro id hid;obtain⟨k,hk⟩:=List.getElem?_of_mem hid;have hlt:=(LQ.1 hk).1
        rcases n3 k _ _ _ (LP (by omega)) (LP (by omega)) hk with⟨id',t',l',_,e2,_,e4⟩ | ⟨_,_,e⟩ | ⟨_,_,e⟩
        ·cases e4;exact⟨t',l',hle _ _ e2⟩
        ·cases e
        ·cases e
       have howned:∀id,some id∈os→∃B,m id=some B∧B.owned=true:=λid hid=>by obtain⟨t',l',h⟩:=hrows id hid;exact⟨_,h,rfl⟩
       obtain⟨d1,d2⟩:=wQ hm hnd howned;have hold:∀b,b<w.heap.size→(w.alloc (.cells ⟨arr⟩ el)).heap[b]? = w.heap[b]?:=λb hb=>heap_alloc_old w _ b hb
       have hlow:∀b∈nbl (os.map (npl g)),b<w.heap.size:=by intro b hb;obtain⟨id,e1,e2⟩:=d2 b hb;obtain⟨B,e3,e4⟩:=howned id e1;exact(hm.ok id B e3).place hm.imm (Blk.noAls e4) e2
       have hR:MemOk own (g.name c (some (w.heap.size,len,len,os.map (npl g)))) (w.alloc (.cells ⟨arr⟩ el)) (updM m ((somes os).map (λr=>(r,none))++[(c,some (.nrow tt l))]))∧Stp m g w (g.name c (some (w.heap.size,len,len,os.map (npl g)))) (w.alloc (.cells ⟨arr⟩ el)):=by
        refine gz (rm:=somes os) hm (hd c (hfr 0 (by simp))) ?_ rfl rfl rfl (Nat.le_refl _) (by rw[World.size_alloc];omega) (λb hb _=>hold b hb) ?_
        ·intro b0 c0 e b hb;cases e;rcases List.mem_cons.1 hb with rfl | hb
         ·exact .inl ⟨Nat.le_refl _,by rw[World.size_alloc];omega,hall _ (Nat.le_refl _)⟩
         ·obtain⟨id,e1,e2⟩:=d2 b hb;obtain⟨B,e3,e4⟩:=howned id e1;exact .inr ⟨id,uR.2 e1,B,e3,e4,e2⟩
        ·intro g' hle' hi'
         have hcl:(cells F tt l).length=len*te.size:=by rw[ay,q1,hsz]
         refine⟨_,hi',q1.symm,by rw[q1];exact Nat.le_refl _,hml',?_,?_,arr,el,heap_alloc_new w _,?_,?_⟩
         ·rw[List.length_map,n2,← n1,hlen,hcl]
         ·refine List.nodup_cons.2 ⟨λhb=>?_,d1⟩;have:=hlow _ hb;omega
         ·rw[r2,← n1,hlen,hsz]
         ·intro k d x pl p1 p2 p3
          have hk:k<cs.length:=by rw[← r2];exact(LQ.1 p2).1
          rw[List.getElem?_map,Option.map_eq_some_iff]at p3;obtain⟨o',ho',rfl⟩:=p3
          have hdk:ds[k]? = some ds[k]:=LP (by omega)
          have hl1:NLe ds[k] d:=q2.2 k _ d hdk p1;have hrep:=r4 k _ x (LP hk) p2;refine OwnC.chg (w:=w) (imm:=g.imm) hle'.imm hle'.heap ?_ ?_
          ·intro b c1 e
           exact hold b (hlow b (eU (k:=k) (c:=c1) (by rw[List.getElem?_map,ho'];exact congrArg some e)))
          ·rcases n3 k _ _ _ (LP hk) hdk ho' with⟨id,t',l',e1,e2,e3,rfl⟩ | ⟨e1,e2,rfl⟩ | ⟨e1,e2,rfl⟩
           ·rw[e3]at hl1;cases hl1;rw[e1]at hrep;exact⟨It hm (hle _ _ e2),HI hm (hle _ _ e2) hrep⟩
           ·rw[e2]at hl1;rw[e1]at hrep;generalize hdd:d=d0 at hl1 ⊢
            cases hl1 with
            | refl=>exact absurd (hdd.symm▸rfl:d = .nl) (Cc hl d (List.mem_of_getElem? p1))
            | nl t'=>obtain⟨p,rfl⟩:=pn (P:=P) (.c hrep);exact⟨rfl,p,rfl⟩
           ·rw[e1]at hrep;have hrep:=bT hrep;exact Hb e2 hl1 hrep
       obtain⟨k1,k2⟩:=hR;intro next Q hn;unfold Oper.wp;rw[hrun];refine hn _ _ _ (.c (.wsl (n:=(len,os.map (npl g))) (aT _ _ _) (Nat.le_refl _) hml')) k1 k2 ?_;intro x hu hx;have hx:x<c∨c+1≤x:=hx
       have:x≠c:=by omega
       rw[bw _ _ _ this];exact hd x hu
 ·exact ad
end
set_option linter.unusedVariables false
set_option linter.unusedSimpArgs false
section
variable{F:Fam}{P:Program}{T:TypeId→Option (TI F)}{o:Oper}{vals:List (Dat F)}{mm:Nat→Option (Blk F)}{c:Nat}{R:Type}{K:Res F→Option R}{own:Ow}{g g':G}{w w':World}{m m':Nat→Option (Blk F)}{u:Nat→Bool}{a:Act}
theorem Do{α : Type}{sz:Nat}:∀{es:List (List α)} (_:∀e∈es,e.length=sz) {i:Nat} {cs ds:List α} (_:es[i]? = some cs) (_:ds.length=cs.length),
  (es.set i ds).flatten=es.flatten.take (i*sz)++ds++es.flatten.drop (i*sz+sz)
 | [],_,i,_,_,h,_=>by simp at h
 | x::es,hsz,0,cs,ds,h,hl=>by
  simp only[List.getElem?_cons_zero,Option.some.injEq]at h;subst h
  have hx:x.length=sz:=hsz x (by simp)
  have h2:(x++es.flatten).drop sz=es.flatten:=by rw[← hx,List.drop_left]
  simp[h2]
 | x::es,hsz,i+1,cs,ds,h,hl=>by
  simp only[List.getElem?_cons_succ]at h
  have hx:x.length=sz:=hsz x (by simp)
  have ih:=Do (es:=es) (λe he=>hsz e (by simp[he])) h hl
  have e1:(i+1)*sz=x.length+i*sz:=by rw[Nat.succ_mul,hx];omega
  simp only[List.set_cons_succ,List.flatten_cons,ih]
  rw[e1,show x.length+i*sz+sz=x.length+(i*sz+sz)by omega,List.take_length_add_append,List.drop_length_add_append]
  simp only[List.append_assoc]
theorem wy{t:Ty}{l:List (ET F t)}{i:Nat}{x y:ET F t}(h:l[i]? = some x):cells F t (l.set i y)=(cells F t l).take (i*szT F t)++encT F t y++(cells F t l).drop (i*szT F t+szT F t):=by
 unfold cells;rw[List.map_set]
 refine Do rW (cs:=encT F t x) (by rw[List.getElem?_map,h];rfl) (by rw[aN,aN])
theorem uN{imm:Nat→Prop}{cs ds:List (ND F)}{cur vs:List Value}{q:Nat}(hq:q+ds.length≤cs.length)(hc:cs.length≤cur.length)
  (hr:∀(k:Nat)(d:ND F)(x:Value),cs[k]? = some d→cur[k]? = some x→RepI w imm d x) (hl:vs.length=ds.length)
  (hv:∀(k:Nat)(d:ND F)(x:Value),ds[k]? = some d→vs[k]? = some x→RepI w imm d x) :
  ∀(k:Nat)(d:ND F)(x:Value),(cs.take q++ds++cs.drop (q+ds.length))[k]? = some d→(cur.take q++vs++cur.drop (q+vs.length))[k]? = some x→RepI w imm d x:=by
 intro k d x h1 h2
 have e1:(cs.take q).length=q:=by simp;omega
 have e2:(cur.take q).length=q:=by simp;omega
 rw[List.append_assoc]at h1 h2;by_cases hk:k<q
 ·rw[List.getElem?_append_left (by omega),List.getElem?_take,if_pos hk]at h1
  rw[List.getElem?_append_left (by omega),List.getElem?_take,if_pos hk]at h2
  exact hr k d x h1 h2
 ·rw[List.getElem?_append_right (by omega),e1]at h1
  rw[List.getElem?_append_right (by omega),e2]at h2
  by_cases hk2:k - q<ds.length
  ·rw[List.getElem?_append_left hk2]at h1
   rw[List.getElem?_append_left (by omega)]at h2
   exact hv _ d x h1 h2
  ·rw[List.getElem?_append_right (by omega),List.getElem?_drop]at h1
   rw[List.getElem?_append_right (by omega),List.getElem?_drop]at h2
   rw[hl]at h2;exact hr _ d x h1 h2
theorem pC{t:Ty}{l:List (ET F t)}{i k:Nat}{x y:ET F t}{d:ND F}(h:l[i]? = some x)(hk:(cells F t (l.set i y))[k]? = some d) :
  (∃j,k=i*szT F t+j∧(encT F t y)[j]? = some d)∨((k<i*szT F t∨i*szT F t+szT F t≤k)∧(cells F t l)[k]? = some d):=by
 have hi:i<l.length:=(LQ.1 h).1;have hcl:(cells F t l).length=l.length*szT F t:=ay
 have hbig:i*szT F t+szT F t≤(cells F t l).length:=by rw[hcl];have:(i+1)*szT F t≤l.length*szT F t:=Nat.mul_le_mul_right _ hi;rw[Nat.succ_mul]at this;omega
 have e1:((cells F t l).take (i*szT F t)).length=i*szT F t:=by rw[List.length_take];omega
 rw[wy h,List.append_assoc]at hk;by_cases h1:k<i*szT F t
 ·rw[List.getElem?_append_left (by omega),List.getElem?_take,if_pos h1]at hk
  exact .inr ⟨.inl h1,hk⟩
 ·rw[List.getElem?_append_right (by omega),e1]at hk
  by_cases h2:k - i*szT F t<szT F t
  ·rw[List.getElem?_append_left (by rw[aN];exact h2)]at hk
   exact .inl ⟨k - i*szT F t,by omega,hk⟩
  ·rw[List.getElem?_append_right (by rw[aN];omega),aN,List.getElem?_drop]at hk
   refine .inr ⟨.inr (by omega),?_⟩
   rw[← hk]
   congr 1
   omega
theorem Bj{b:Nat}:∀{ns:NS},(nbl ns).Nodup→∀{k k':Nat}{c c':Nat×Nat},ns[k]? = some (some (b,c))→ns[k']? = some (some (b,c'))→k=k'
 | [],_,k,k',c,c',h,_=>by simp at h
 | none::ns,hn,k,k',c,c',h,h'=>by
  cases k with
  | zero=>simp at h
  | succ k=>
   cases k' with
   | zero=>simp at h'
   | succ k'=>exact congrArg (· + 1) (Bj (ns:=ns) hn (k:=k) (k':=k') (c:=c) (c':=c') (by simpa using h) (by simpa using h'))
 | some (b0,c0)::ns,hn,k,k',c,c',h,h'=>by
  simp only[nbl,List.nodup_cons]at hn
  cases k with
  | zero=>
   cases k' with
   | zero=>rfl
   | succ k'=>
    simp only[List.getElem?_cons_zero,Option.some.injEq,Prod.mk.injEq]at h
    exact absurd (eU (ns:=ns) (by simpa using h')) (h.1▸hn.1)
  | succ k=>
   cases k' with
   | zero=>
    simp only[List.getElem?_cons_zero,Option.some.injEq,Prod.mk.injEq]at h'
    exact absurd (eU (ns:=ns) (by simpa using h)) (h'.1▸hn.1)
   | succ k'=>exact congrArg (· + 1) (Bj (ns:=ns) hn.2 (k:=k) (k':=k') (c:=c) (c':=c') (by simpa using h) (by simpa using h'))
theorem zJ{imm:Nat→Prop}{d d':ND F}{x:Value}{pl:Option (Nat×Nat×Nat)}(hl:NLe d d')(h:OwnC w imm d x pl):d'=d:=by
 cases hl with
 | refl=>rfl
 | nl t=>exact absurd h.2.1 (by simp[NID.flat])
theorem Fl{imm:Nat→Prop}{t':Ty}{l:List (ET F t')}{i off:Nat}{el nw:ET F t'}{ds:List (ND F)}{cur vs:List Value}(hel:l[i]? = some el)(h3:off+ds.length≤szT F t')(hnw:decT F t' ((encT F t' el).take off++ds++(encT F t' el).drop (off+ds.length))=some nw)
  (hcur:(cells F t' l).length≤cur.length) (k6:∀(k:Nat)(d:ND F)(x:Value),(cells F t' l)[k]? = some d→cur[k]? = some x→RepI w imm d x) (hl:vs.length=ds.length)
  (hv:∀(k:Nat)(d:ND F)(x:Value),ds[k]? = some d→vs[k]? = some x→RepI w imm d x) :
  ∀(k:Nat)(d:ND F)(x:Value),(cells F t' (l.set i nw))[k]? = some d→(cur.take (i*szT F t'+off)++vs++cur.drop (i*szT F t'+off+ds.length))[k]? = some x→RepI w imm d x:=by
 intro k d x p q;have hile:i<l.length:=(LQ.1 hel).1;have hcl:(cells F t' l).length=l.length*szT F t':=ay
 have hbig:i*szT F t'+szT F t'≤(cells F t' l).length:=by rw[hcl];have:(i+1)*szT F t'≤l.length*szT F t':=Nat.mul_le_mul_right _ hile;rw[Nat.succ_mul]at this;omega
 rw[wy hel]at p;have hels:(encT F t' el).length=szT F t':=aN F t' el
 have hov:=uN (w:=w) (imm:=imm) (cs:=cells F t' l) (ds:=ds) (cur:=cur) (vs:=vs) (q:=i*szT F t'+off) (by omega) hcur k6 hl hv
 rw[hl]at hov;have hles:=bG F hnw
 have hin:(cells F t' l).take (i*szT F t')++(encT F t' el).take off=(cells F t' l).take (i*szT F t'+off):=by
  rw[List.take_add]
  congr 1
  apply List.ext_getElem?;intro j;rw[List.getElem?_take,List.getElem?_take];split
  ·rw[List.getElem?_drop]
   have hj:j<(encT F t' el).length:=by omega
   rw[LP hj,aM hel (LP hj)]
  ·rfl
 have hout:(encT F t' el).drop (off+ds.length)++(cells F t' l).drop (i*szT F t'+szT F t')=(cells F t' l).drop (i*szT F t'+off+ds.length):=by
  apply List.ext_getElem?;intro j;rw[List.getElem?_drop];by_cases hj:off+ds.length+j<szT F t'
  ·rw[List.getElem?_append_left (by rw[List.length_drop,hels];omega),List.getElem?_drop]
   have hj2:off+ds.length+j<(encT F t' el).length:=by omega
   rw[LP hj2];have:=aM hel (LP hj2);rw[← this]
   congr 1
   omega
  ·rw[List.getElem?_append_right (by rw[List.length_drop,hels];omega),List.getElem?_drop,List.length_drop,hels]
   congr 1
   omega
 have hles2:Les ((cells F t' l).take (i*szT F t'+off)++ds++(cells F t' l).drop (i*szT F t'+off+ds.length)) ((cells F t' l).take (i*szT F t')++encT F t' nw++(cells F t' l).drop (i*szT F t'+szT F t')):=by
  rw[← hin,← hout]
  have hrefl:∀l:List (ND F),Les l l:=λl=>⟨rfl,λk c d h1 h2=>by rw[h1]at h2;cases h2;exact .refl _⟩
  have:=mR (mR (hrefl ((cells F t' l).take (i*szT F t'))) hles) (hrefl ((cells F t' l).drop (i*szT F t'+szT F t')));simpa[List.append_assoc]using this
 exact yk hles2 hov k d x p q
theorem xN:∀{cs:List (Cel F)} {ds:List (ND F)} {ids:List Nat},bJ mm cs=some (ds,ids)→cs.all Cel.noAny=true
 | [],ds,ids,_=>rfl
 | y::cs,ds,ids,h=>by
  obtain⟨d,i',ds',j,q1,q2,_,_⟩:=ko h;simp only[List.all_cons,Bool.and_eq_true];refine⟨?_,xN q2⟩
  cases y<;>first | rfl | simp[celND]at q1
theorem Fm(hT:TblOk P T){t:TypeId}{x y:Operand}(ho:o.op = .store t x y):Rule P o vals mm c K (Dy T vals mm K t):=by
 unfold Dy;split
 ·exact ad
 ·rename_i ti hti
  have key:∀{w:World}{a:Act}{b q:Nat}{cur:List Value} {e:TypeId} {vs:List Value},a.eval x = .pointer (some ⟨b,q,none⟩)→w.heap[b]? = some (.cells ⟨cur⟩ e (0,0))→(a.eval y).cells.toList=vs→vs.length=ti.size→
    (∀v∈vs,v.oneCell'=true)→q+vs.length≤cur.length→(execOp a.eval o).run P w = .ok .skip (w.setRow b ⟨cur.take q++vs++cur.drop (q+vs.length)⟩):=by
   intro w a b q cur e vs e1 hb e2 hl h1 hle;have hsz:=bi hT hti w
   have hs:=run_storeCells_at (P:=P) b q e vs 0 ⟨cur⟩ w hb (by simpa using hle) h1
   simp only[Nat.add_zero]at hs
   have hsize:(a.eval y).cells.size=ti.size:=by rw[← Array.length_toList,e2,hl]
   simp only[execOp,ho,e1,Instr.storeAt,Instr.sureAddr,Sem.run_bind,Sem.run_pure,Result.andThen_ok,storeVar,hsz,hsize,ne_eq,not_true_eq_false,if_false,e2,hs]
  split
  ·rename_i id off v;split
   ·rename_i cs hbox;dsimp only;refine au (λhc=>?_) (λ_=>ad);simp only[Bool.and_eq_true,decide_eq_true_eq,Nat.blt_eq]at hc;obtain⟨⟨⟨h1,h2⟩,h3⟩,h4⟩:=hc;have h3:=Nat.le_of_ble_eq_true h3;intro r hr;refine⟨_,hr,?_⟩;intro own g w a m u hle hm hd hall hfr hrep;rw[ho]at hrep;simp only[Op.operands,List.map_cons,List.map_nil]at hrep;obtain⟨hx,hy⟩:=reps2 hrep;obtain⟨b,cn,hi,e1⟩:=bh hx;obtain⟨b',cn',arr,tt,k1,k2,k3,k4⟩:=hm.ok id _ (hle _ _ hbox);rw[k1]at hi;cases hi;obtain⟨r1,r2,r3⟩:=jn hy h2 h4
    have hrun:=key (vs:=(a.eval y).cells.toList) e1 k2 rfl (by rw[r1,h1]) r3 (by rw[r1,k3];exact h3)
    have hseg:=EF (off:=off) k3 k4 r1 r2;rw[r1]at hseg hrun
    obtain⟨w1,w2⟩:=xQ (B':=.box (cs.take off++v.cells++cs.drop (off+v.cells.length))) (arr:=arr.take off++(a.eval y).cells.toList++arr.drop (off+v.cells.length)) hm (hle _ _ hbox) rfl k1 k2 (by intro hh hle';exact⟨b,cn',_,tt,k1,hh,hseg.1,λk c x p q=>(hseg.2 k c x p q).le hle'⟩)
    intro next Q hn;unfold Oper.wp;rw[hrun];exact hn undef _ g (.c .any) w1 w2 (λid hu _=>hd id hu)
   ·exact ad
  ·rename_i id sz i off v;split
   ·rename_i t' l ds fz hrow hds;refine au (λhc=>?_) (λ_=>ad);simp only[Bool.and_eq_true,decide_eq_true_eq,beq_iff_eq,Nat.blt_eq,Bool.not_eq_true']at hc;obtain⟨⟨⟨⟨⟨h1,h2⟩,h3⟩,h4⟩,h5⟩,_⟩:=hc;have h3:=Nat.le_of_ble_eq_true h3;subst h2;refine ax λel hel=>?_;dsimp only;split
    ·rename_i nw hnw;intro r hr;refine⟨_,hr,?_⟩;intro own g w a m u hle hm hd hall hfr hrep;have hf:Fzl mm fz:=Fzl.of_rows (mV hds);refine DV (res:={ val:=.c .any,mw:=[(id,some (.row t' (l.set i nw)))] }) hle hf ?_;have hm1:=freeze hm hle hf;rw[ho]at hrep;simp only[Op.operands,List.map_cons,List.map_nil]at hrep;obtain⟨hx,hy⟩:=reps2 hrep;have hlen:v.cells.length=ds.length:=(dQ hds).symm
     have hna:v.cells.all Cel.noAny=true:=by
      rw[List.all_eq_true];intro x hx'
      have gen:∀{cs:List (Cel F)} {ds:List (ND F)} {ids:List Nat},bJ mm cs=some (ds,ids)→x∈cs→x.noAny=true:=by
       intro cs
       induction cs with
       | nil=>intro ds ids _ h;simp at h
       | cons y cs ih=>
        intro ds ids h hmem;obtain⟨d,i',ds',j,q1,q2,_,_⟩:=ko h;rcases List.mem_cons.1 hmem with rfl | hmem
        ·cases x<;>first | rfl | simp[celND]at q1
        ·exact ih q2 hmem
      exact gen hds hx'
     obtain⟨b,cn,hi,e1⟩:=d9 hx
     have hrowm:updM m (frz mm fz) id=some (.row t' l):=by
      rw[gc,if_neg (by intro hid;rw[aF.2 hid]at h5;cases h5)]
      exact hle _ _ hrow
     rcases hm.ok id _ (hle _ _ hrow)with⟨k1,k2⟩ | ⟨b',cap,cur,e,k1,k2,k3,k4,k5,k6⟩
     ·rw[k1]at hi;cases hi
     ·rw[k1]at hi;cases hi
      obtain⟨r1,r2,r3⟩:=jn hy hna (by omega)
      have hile:i<l.length:=(LQ.1 hel).1;have hcl:(cells F t' l).length=l.length*szT F t':=ay
      have hbig:i*szT F t'+szT F t'≤(cells F t' l).length:=by rw[hcl];have:(i+1)*szT F t'≤l.length*szT F t':=Nat.mul_le_mul_right _ hile;rw[Nat.succ_mul]at this;omega
      have hcur:(cells F t' l).length≤cur.length:=by rw[hcl,k5];exact Nat.mul_le_mul_right _ k3
      have hrun:=key (vs:=(a.eval y).cells.toList) e1 k2 rfl (by rw[r1,hlen,h1]) r3 (by rw[r1,hlen];omega)
      rw[r1,hlen]at hrun
      obtain⟨w1,w2⟩:=xQ (g:=g.fzs fz) (B':=.row t' (l.set i nw)) (arr:=cur.take (i*szT F t'+off)++(a.eval y).cells.toList++cur.drop (i*szT F t'+off+ds.length)) hm1 hrowm rfl k1 k2 (by
       intro hh hle'
       refine .inr ⟨b,cap,_,e,by rw[List.length_set];exact k1,hh,by simpa using k3,k4,?_,?_⟩
       ·simp only[LR,List.length_take,List.length_drop,r1,hlen];omega
       ·intro k d x p q;refine RepI.le hle' ?_;rw[wy hel]at p;have hels:(encT F t' el).length=szT F t':=aN F t' el;have hle2:=pa g w fz
        have hov:=uN (w:=w) (imm:=(g.fzs fz).imm) (cs:=cells F t' l) (ds:=ds) (cur:=cur) (vs:=(a.eval y).cells.toList) (q:=i*szT F t'+off) (by omega) hcur (λk d x p q=>(k6 k d x p q).le hle2) (by rw[r1,hlen])
         (ft hm hle hds hle2 (λid hid b hb=>.inr ⟨id,hid,hb⟩) _ r2)
        rw[r1,hlen]at hov;have hles:=bG F hnw
        have hin:(cells F t' l).take (i*szT F t')++(encT F t' el).take off=(cells F t' l).take (i*szT F t'+off):=by
         rw[List.take_add]
         congr 1
         apply List.ext_getElem?;intro j;rw[List.getElem?_take,List.getElem?_take];split
         ·rw[List.getElem?_drop]
          have hj:j<(encT F t' el).length:=by omega
          rw[LP hj,aM hel (LP hj)]
         ·rfl
        have hout:(encT F t' el).drop (off+ds.length)++(cells F t' l).drop (i*szT F t'+szT F t')=(cells F t' l).drop (i*szT F t'+off+ds.length):=by
         apply List.ext_getElem?;intro j;rw[List.getElem?_drop];by_cases hj:off+ds.length+j<szT F t'
         ·rw[List.getElem?_append_left (by rw[List.length_drop,hels];omega),List.getElem?_drop]
          have hj2:off+ds.length+j<(encT F t' el).length:=by omega
          rw[LP hj2];have:=aM hel (LP hj2);rw[← this]
          congr 1
          omega
         ·rw[List.getElem?_append_right (by rw[List.length_drop,hels];omega),List.getElem?_drop,List.length_drop,hels]
          congr 1
          omega
        have hles2:Les ((cells F t' l).take (i*szT F t'+off)++ds++(cells F t' l).drop (i*szT F t'+off+ds.length)) ((cells F t' l).take (i*szT F t')++encT F t' nw++(cells F t' l).drop (i*szT F t'+szT F t')):=by
         rw[← hin,← hout]
         have hrefl:∀l:List (ND F),Les l l:=λl=>⟨rfl,λk c d h1 h2=>by rw[h1]at h2;cases h2;exact .refl _⟩
         have:=mR (mR (hrefl ((cells F t' l).take (i*szT F t'))) hles) (hrefl ((cells F t' l).drop (i*szT F t'+szT F t')));simpa[List.append_assoc]using this
        exact yk hles2 hov k d x p q)
      intro next Q hn;unfold Oper.wp;rw[hrun];exact hn undef _ (g.fzs fz) (.c .any) w1 w2 (λid hu _=>hd id hu)
    ·exact ad
   ·exact ad
  ·rename_i id sz i off sz' j off' v;split
   ·rename_i t' l ds fz hrow hds;refine au (λhc=>?_) (λ_=>ad);simp only[Bool.and_eq_true,decide_eq_true_eq,beq_iff_eq,Nat.blt_eq,List.isEmpty_iff]at hc;obtain⟨⟨⟨h1,rfl⟩,h4⟩,rfl⟩:=hc;refine ax λel hel=>?_;split
    ·rename_i t2 l2 hd;refine au (λhc=>?_) (λ_=>ad);simp only[Bool.and_eq_true,beq_iff_eq]at hc;obtain⟨rfl,h3⟩:=hc;have h3:=Nat.le_of_ble_eq_true h3;refine ax λel2 hel2=>?_;split
     ·rename_i z hz;split
      ·rename_i nw hnw;intro r hr;refine⟨_,hr,?_⟩;intro own g w a m u hle hm hd' hall hfr hrep;rw[ho]at hrep;simp only[Op.operands,List.map_cons,List.map_nil]at hrep;obtain⟨hx,hy⟩:=reps2 hrep;have hlen:v.cells.length=ds.length:=(dQ hds).symm;obtain⟨b,c',nn,b',c2,hid,hk,e1⟩:=E1 hx;obtain⟨pl,k1,k2⟩:=hm.ok id _ (hle _ _ hrow);rw[hid]at k1;cases k1;obtain⟨t2',l2',hd2,hO⟩:=OwnN.sub k2 hk;have hc0:=aM hel hd;rw[hc0]at hd2;cases hd2;obtain⟨q0,q2,q3,cur,e,q4,q5,q6⟩:=hO;have hb':b'∈nbl nn.2:=eU hk;have hblk:g.blk id b':=⟨b,(c',nn),hid,List.mem_cons_of_mem _ hb'⟩
       obtain⟨r1,r2,r3⟩:=jn hy (xN hds) (by omega)
       have hjle:j<l2.length:=(LQ.1 hel2).1;have hcl:(cells F t2 l2).length=l2.length*szT F t2:=ay
       have hbig:j*szT F t2+szT F t2≤(cells F t2 l2).length:=by rw[hcl];have:(j+1)*szT F t2≤l2.length*szT F t2:=Nat.mul_le_mul_right _ hjle;rw[Nat.succ_mul]at this;omega
       have hcur:(cells F t2 l2).length≤cur.length:=by rw[hcl,q5];exact Nat.mul_le_mul_right _ q2
       have hrun:=key (vs:=(a.eval y).cells.toList) e1 q4 rfl (by rw[r1,hlen,h1]) r3 (by rw[r1,hlen];omega)
       rw[r1,hlen]at hrun
       have hv:=ft hm hle hds (Le.refl g w) (by simp) _ r2
       have hnew:=Fl (w:=w) (imm:=g.imm) (vs:=(a.eval y).cells.toList) hel2 h3 hz hcur q6 (by rw[r1,hlen]) hv
       obtain⟨s1,s2,s3,s4,s5,cur0,e0,s6,s7,s8⟩:=k2;have s5':=List.nodup_cons.1 s5;have hbne:b≠b':=λe=>s5'.1 (e▸hb')
       obtain⟨w1,w2⟩:=CX (B':=.nrow t' (l.set i nw)) (arr:=cur.take (j*szT F t2+off')++(a.eval y).cells.toList++cur.drop (j*szT F t2+off'+ds.length)) hm (hle _ _ hrow) rfl hblk q4 (by
        intro hh hle';have hsame:∀b2,b2≠b'→(w.setRow b' ⟨cur.take (j*szT F t2+off')++(a.eval y).cells.toList++cur.drop (j*szT F t2+off'+ds.length)⟩).heap[b2]? = w.heap[b2]?:=λb2 h=>setRow_other w b' b2 _ h
        refine⟨_,hid,by rw[s1,List.length_set],by simpa using s2,s3,by rw[s4,ay,ay,List.length_set],s5,cur0,e0,by rw[hsame b hbne];exact s6,s7,?_⟩
        intro k d x pl p1 p2 p3;have hkn:k<nn.2.length:=(LQ.1 p3).1;have hold:∀{d0:ND F},(cells F t' l)[k]? = some d0→OwnC w g.imm d0 x pl:=λh0=>s8 k _ x pl h0 p2 p3
        have keep:∀{d0:ND F},k≠i*szT F t'+off→OwnC w g.imm d0 x pl→OwnC (w.setRow b' ⟨cur.take (j*szT F t2+off')++(a.eval y).cells.toList++cur.drop (j*szT F t2+off'+ds.length)⟩) g.imm d0 x pl:=by intro d0 hne h;refine h.chg (λ_ h=>h) hle'.heap ?_;rintro b2 c3 rfl;refine hsame b2 ?_;rintro rfl;exact hne (Bj s5'.2 p3 hk)
        rcases pC hel p1 with⟨jj,rfl,hjj⟩ | ⟨hout,hcell⟩
        ·have hlt:jj<szT F t':=by rw[← aN F t' nw];exact(LQ.1 hjj).1
         have hj0:jj<(encT F t' el).length:=by rw[aN];exact hlt
         have hles:=(bG F hnw).2 jj _ d (LP (by simpa using hj0)) hjj
         by_cases hjo:jj=off
         ·subst hjo;rw[List.getElem_set_self]at hles;cases hles;rw[hk]at p3;cases p3;have h9:=(hold hc0).2
          refine⟨⟨?_,by simpa using q2,q3,_,e,hh,?_,?_⟩,h9⟩
          ·simpa using q0
          ·simp only[LR,List.length_take,List.length_drop,r1,hlen];omega
          ·intro k d x p q;exact(hnew k d x p q).le hle'
         ·rw[List.getElem_set_ne (λe=>hjo e.symm)]at hles;have h9:=hold (aM hel (LP hj0));rw[zJ hles h9]
          exact keep (by omega) h9
        ·refine keep ?_ (hold hcell)
         have:off<szT F t':=by rw[← aN F t' el];exact(LQ.1 hd).1
         omega)
       intro next Q hn;unfold Oper.wp;rw[hrun];exact hn undef _ g (.c .any) w1 w2 (λid hu _=>hd' id hu)
      ·exact ad
     ·exact ad
    ·exact ad
   ·exact ad
  ·exact ad
def SrcOk(g:G)(w:World)(t:Ty)(v:Value)(ys:List (ET F t)):Prop:=
 ∃(q:Option Addr)(cap:Nat)(news:List Value),v = .slice q ys.length cap∧news.length=ys.length*szT F t∧(q=none→ys = []∧cap=0)∧(∀b,q=some b→∀(j:Nat)(x:Value),news[j]? = some x→w.cell? (b.add j)=some x)∧
  ∀(k:Nat)(d:ND F)(x:Value),(cells F t ys)[k]? = some d→news[k]? = some x→RepI w g.imm d x
theorem Bh{b q n:Nat}{ds:List (ND F)}(hl:ds.length=n)(h:∀k d,ds[k]? = some d→∃x,w.cell? ⟨b,q+k,none⟩=some x∧RepI w g.imm d x) :
  ∃news:List Value,news.length=n∧(∀(j:Nat)(x:Value),news[j]? = some x→w.cell? ((⟨b,q,none⟩:Addr).add j)=some x)∧∀(k:Nat)(d:ND F)(x:Value),ds[k]? = some d→news[k]? = some x→RepI w g.imm d x:=by
 refine⟨(List.range n).map λk=>(w.cell? ⟨b,q+k,none⟩).getD undef,by simp,?_,?_⟩
 ·intro j x hx
  have hj:j<n:=by have:=(LQ.1 hx).1;simpa using this
  rw[List.getElem?_map,List.getElem?_range hj]at hx;simp only[Option.map_some,Option.some.injEq]at hx
  obtain⟨y,hy,_⟩:=h j _ (LP (by omega))
  rw[hy]at hx;rw[Addr.add_lit,hy];simpa using hx
 ·intro k d x h1 h2
  have hk:k<n:=by have:=(LQ.1 h1).1;omega
  rw[List.getElem?_map,List.getElem?_range hk]at h2;simp only[Option.map_some,Option.some.injEq]at h2;obtain⟨y,hy,hr⟩:=h k d h1;rw[hy]at h2;simp only[Option.getD_some]at h2;rw[← h2];exact hr
theorem xX{t:Ty}(p:Option Addr):SrcOk (F:=F) g w t (.slice p 0 0) []:=⟨p,0,[],rfl,by simp,λ_=>⟨rfl,rfl⟩,λ_ _ _ _ h=>by simp at h,λ_ _ _ h=>by simp[cells]at h⟩
theorem xw{t:Ty}{l:List (ET F t)}{v:Value}(h:RepI w g.imm (.sl t l) v):SrcOk g w t v l:=by
 rcases wV h with⟨rfl,p,rfl⟩ | ⟨b,q,cap,fn,hb,hcap,hmx,rfl,hc,hr⟩
 ·exact xX p
 ·obtain⟨news,n1,n2,n3⟩:=Bh (g:=g) (w:=w) (b:=b) (q:=q) (ds:=cells F t l) ay (λk d hk=>⟨fn k,hc k d hk,hr k d hk⟩)
  exact⟨_,cap,news,rfl,n1,(λh=>by cases h),(λb' hb'=>by cases hb';exact n2),n3⟩
theorem Aa(hm:MemOk own g w m)(hle:MLe mm m){tt:Ty}{d:Dat F}{v:Value}{ys:List (ET F tt)}(h:wl mm tt d=some ys)(hr:RepD P g w d v):SrcOk g w tt v ys:=by
 unfold wl at h;split at h
 ·cases h;obtain⟨p,rfl⟩:=pn hr
  exact xX p
 ·split at h
  ·rename_i hk;subst hk;cases h;exact xw (wA hr)
  ·cases h
 ·rename_i id;split at h
  ·rename_i t' l hrow;split at h
   ·rename_i hk;subst hk;cases h;rcases aU (aO hr)with⟨hi,p,rfl⟩ | ⟨b,cap,n,hi,h1,h2,rfl⟩
    ·rcases hm.ok id _ (hle _ _ hrow)with⟨_,rfl⟩ | ⟨_,_,_,_,k1,_⟩
     ·exact xX p
     ·rw[hi]at k1;cases k1
    ·obtain⟨rfl,h4,h7⟩:=bQ hm (hle _ _ hrow) hi
     obtain⟨news,n1,n2,n3⟩:=Bh (g:=g) (w:=w) (b:=b) (q:=0) (ds:=cells F t' l) ay (λk d hk=>by rw[Nat.zero_add];exact h7 k d hk)
     exact⟨_,cap,news,rfl,n1,(λh=>by cases h),(λb' hb'=>by cases hb';exact n2),n3⟩
   ·cases h
  ·rename_i t' l hrow;split at h
   ·rename_i hk;subst hk;cases h;exact xw (sZ hm (hle _ _ hrow) (aO hr))
   ·cases h
  ·cases h
 ·rename_i id sz off n;split at h
  ·rename_i t' l hrow;split at h
   ·rename_i hk;subst hk;split at h
    ·rename_i hsz;cases h;subst hsz;rcases nP (aO hr)with⟨hi,rfl,rfl,p,rfl⟩ | ⟨b,cap,len,q,hi,h1,h2,h3,h4,rfl⟩
     ·have:Fx.sub l 0 0 = []:=by simp[Fx.sub]
      rw[this];exact xX p
     ·obtain⟨rfl,h5,h7⟩:=bQ hm (hle _ _ hrow) hi
      have hlen:(Fx.sub l off n).length=n:=by simp only[Fx.sub,List.length_take,List.length_drop];omega
      obtain⟨news,n1,n2,n3⟩:=Bh (g:=g) (w:=w) (b:=b) (q:=q) (ds:=cells F t' (Fx.sub l off n)) ay (λk d hk=>by
       rcases h3 with⟨h3,_⟩ | h3
       ·have h0:n=0:=by omega
        subst h0;simp[Fx.sub,cells]at hk
       ·subst h3;exact h7 _ _ (h_ hk))
      exact⟨_,_,news,by rw[hlen],n1,(λh=>by cases h),(λb' hb'=>by cases hb';exact n2),n3⟩
    ·cases h
   ·cases h
  ·rename_i t' l hrow;split at h
   ·rename_i hk;subst hk;split at h
    ·rename_i hsz;cases h;exact xw (Dc hm (hle _ _ hrow) hsz (aO hr))
    ·cases h
   ·cases h
  ·cases h
 ·cases h
end
set_option linter.unusedVariables false
set_option linter.unusedSimpArgs false
section
variable{F:Fam}{P:Program}{T:TypeId→Option (TI F)}{o:Oper}{vals:List (Dat F)}{mm:Nat→Option (Blk F)}{c:Nat}{R:Type}{K:Res F→Option R}{own:Ow}{g g':G}{w w':World}{m m':Nat→Option (Blk F)}{u:Nat→Bool}{a:Act}
theorem GB{α : Type}{b:Nat}{l m r:List α}(h:app b l m=some r):r=l++m∧r.length≤maxLen∧r.length*b≤140737488355328:=by
 unfold app at h;split at h
 ·rename_i hc;cases h;exact⟨rfl,hc.1,hc.2⟩
 ·cases h
theorem iT(t ty e:TypeId)(i:TypeInfo)(ht:P.underlying t=some (.slice e))(hi:P.info? e=some i)(base:Option Addr)(n c:Nat)(hn:n≤c)(q:Option Addr)(c':Nat) :
  (Builtin.append_ #[t,t] ty #[.slice base n c,.slice q 0 c']).run P w = .ok (.slice base n c) w:=by
 cases base<;>cases q<;>simp[Builtin.append_,run_underlying ht,sizeOf,typeInfo,hi,Builtin.lenOf,hn,Builtin.firstCells,storeCells,loadCells,loadCellsFrom]
theorem rL(t ty e e':TypeId)(i:TypeInfo)(ht:P.underlying t=some (.slice e))(hi:P.info? e=some i)
  (b sLen sCap:Nat) (cur:Array Value) (hg:w.heap[b]? = some (.cells cur e' (0,0)))
  (p:Addr) (m c:Nat) (news:List Value) (hl:news.length=m*i.size) (hnews:∀j u,news[j]? = some u→w.cell? (p.add j)=some u) (h1:∀u∈news,u.oneCell'=true)
  (hroom:sLen+m≤sCap) (hfit:sLen*i.size+news.length≤cur.size) :
  (Builtin.append_ #[t,t] ty #[.slice (some ⟨b,0,none⟩) sLen sCap,.slice (some p) m c]).run P w =
   .ok (.slice (some ⟨b,0,none⟩) (sLen+m) sCap) (w.setRow b (cur.toList.take (sLen*i.size)++news++cur.toList.drop (sLen*i.size+news.length)).toArray):=by
 have hf:=run_firstCells_some (P:=P) w i.size m p m c news hl hnews
 have hst:=run_storeCells_at P b (sLen*i.size) e' news 0 cur w hg (by simpa using hfit) h1
 simp only[Nat.add_zero]at hst;simp[Builtin.append_,run_underlying ht,sizeOf,typeInfo,hi,Builtin.lenOf,hroom,hf,Addr.add_lit,hst]
theorem sM{imm:Nat→Prop}{xs ys:List (ND F)}{cur news rest:List Value}(hc:xs.length≤cur.length)(hx:∀(k:Nat)(d:ND F)(x:Value),xs[k]? = some d→cur[k]? = some x→RepI w imm d x)
  (hn:news.length=ys.length) (hy:∀(k:Nat)(d:ND F)(x:Value),ys[k]? = some d→news[k]? = some x→RepI w imm d x) :
  ∀(k:Nat)(d:ND F)(x:Value),(xs++ys)[k]? = some d→(cur.take xs.length++news++rest)[k]? = some x→RepI w imm d x:=by
 intro k d x h1 h2
 have e:(cur.take xs.length).length=xs.length:=by rw[List.length_take];omega
 rw[List.append_assoc]at h2;by_cases hk:k<xs.length
 ·rw[List.getElem?_append_left hk]at h1
  rw[List.getElem?_append_left (by omega),List.getElem?_take,if_pos hk]at h2
  exact hx k d x h1 h2
 ·rw[List.getElem?_append_right (by omega)]at h1
  have hk2:k - xs.length<ys.length:=(LQ.1 h1).1
  rw[List.getElem?_append_right (by omega),e,List.getElem?_append_left (by omega)]at h2
  exact hy _ d x h1 h2
theorem di{t:Ty}{l r:List (ET F t)}:cells F t (l++r)=cells F t l++cells F t r:=by simp[cells]
theorem yE(hT:TblOk P T)(hm:MemOk own g w m)(hd:∀id,u id=false→g.ids id=none)(hall:∀b,w.heap.size≤b→own.o b)(hfr:u c=false)
  {t e:TypeId} {i te:TI F} (ht:T t=some i) (hde:i.desc = .slice e) (hte:T e=some te) (hz0:0<te.size) {tt:Ty} (hsz:szT F tt=te.size) {x y:Operand}
  (ho:o.op = .call { callee:=.builtin .append,args:=#[x,y],argTypes:=#[t,t] }) {l0 ys r:List (ET F tt)} (hr:app te.bytes l0 ys=some r) (hsrc:SrcOk g w tt (a.eval y) ys) {rm:List Nat}
  (hdst:(∃p,a.eval x = .slice p 0 0∧l0 = [])∨∃r0 b cap cur e',rm = [r0]∧a.eval x = .slice (some ⟨b,0,none⟩) l0.length cap∧m r0=some (.row tt l0)∧g.ids r0=some (some (b,cap,l0.length,[]))∧w.heap[b]? = some (.cells ⟨cur⟩ e' (0,0))∧l0.length≤cap∧cap≤maxLen∧cur.length=cap*szT F tt∧
   ∀(k:Nat)(d:ND F)(x:Value),(cells F tt l0)[k]? = some d→cur[k]? = some x→RepI w g.imm d x) :
  Outc P own m u g w o a c { val:=.c (.wsl c),mw:=rm.map (λr=>(r,none))++[(c,some (.row tt r))],nu:=1 }:=by
 have hu:=hT.und _ _ ht;rw[hde]at hu;obtain⟨j,hj,hs,hb,z,hz,hzs,hzl,hzr⟩:=hT.info e te hte
 have runOf:∀{v:Value}{w':World},(Builtin.append_ #[t,t] o.type #[a.eval x,a.eval y]).run P w = .ok v w'→(execOp a.eval o).run P w = .ok (.value v) w':=by intro v w' hr;simp only[execOp,ho,resolve,invoke,builtin,Sem.run_bind,Sem.run_pure,Result.andThen_ok,List.map_toArray,List.map_cons,List.map_nil,hr]
 obtain⟨rfl,v3,v4⟩:=GB hr;have hfid:g.ids c=none:=hd c hfr;have hlen:(l0++ys).length=l0.length+ys.length:=LR;obtain⟨q,cap',news,hyv,n1,n0,n2,n3⟩:=hsrc;rw[hsz]at n1
 have hcl0:(cells F tt l0).length=l0.length*te.size:=by rw[ay,hsz]
 have hcly:(cells F tt ys).length=ys.length*te.size:=by rw[ay,hsz]
 have fin:∀{v:Value}{w':World}{pl:Pl},(execOp a.eval o).run P w = .ok (.value v) w'→MemOk own (g.name c pl) w' (updM m (rm.map (λr=>(r,none))++[(c,some (.row tt (l0++ys)))]))→
   Stp m g w (g.name c pl) w'→RepC (F:=F) (g.name c pl) w' (.wsl c) v→Outc P own m u g w o a c { val:=.c (.wsl c),mw:=rm.map (λr=>(r,none))++[(c,some (.row tt (l0++ys)))],nu:=1 }:=by
  intro v w' pl hr k1 k2 k3;intro next Q hn;unfold Oper.wp;rw[hr];refine hn v w' (g.name c pl) (.c k3) k1 k2 ?_;intro id hu' hx';have hx':id<c∨c+1≤id:=hx'
  have:id≠c:=by omega
  rw[bw _ _ _ this];exact hd id hu'
 have asNil:∀p,l0++ys = []→(execOp a.eval o).run P w = .ok (.value (.slice p 0 0)) w→Outc P own m u g w o a c { val:=.c (.wsl c),mw:=rm.map (λr=>(r,none))++[(c,some (.row tt (l0++ys)))],nu:=1 }:=by
  intro p h0 hr;obtain⟨k1,k2⟩:=H7 (rm:=rm) (id:=c) (t:=tt) hm hfid
  exact fin hr (by rw[h0];exact k1) k2 (.wsl0 p (aT _ _ _))
 have asNew:∀(cap:Nat)(arr:List Value),(l0++ys).length≤cap→cap≤maxLen→arr.length=cap*te.size→(∀(k:Nat)(d:ND F)(x:Value),(cells F tt (l0++ys))[k]? = some d→arr[k]? = some x→RepI w g.imm d x)→
   (execOp a.eval o).run P w = .ok (.value (.slice (some ⟨w.heap.size,0,none⟩) (l0++ys).length cap)) (w.drew.alloc (.cells ⟨arr⟩ e))→Outc P own m u g w o a c { val:=.c (.wsl c),mw:=rm.map (λr=>(r,none))++[(c,some (.row tt (l0++ys)))],nu:=1 }:=by
  intro cap arr h1 h2 h3 h4 hr
  obtain⟨k1,k2⟩:=made (rm:=rm) (id:=c) (cn:=(cap,(l0++ys).length)) (arr:=arr) (t:=e) (B:=.row tt (l0++ys)) hm hfid (hall _ (Nat.le_refl _)) (w1:=w.drew) rfl rfl rfl rfl (Nat.le_succ _) (by
   intro g' w' hle hi hh
   refine .inr ⟨w.heap.size,cap,arr,e,hi,hh,h1,h2,by rw[h3,hsz],?_⟩
   intro k d x p q;exact(h4 k d x p q).le hle)
  exact fin hr k1 k2 (.wsl (aT _ _ _) h1 h2)
 have hzc:∀k,(Builtin.zeroCells z.cells k).toList.length=k*te.size:=λk=>by rw[Array.length_toList,size_zeroCells,hzs]
 have capOk:∀old,(l0++ys).length≤grownCap w (l0++ys).length old e∧grownCap w (l0++ys).length old e≤maxLen:=λold=>⟨grownCap_ge w _ _ _,grownCap_le_maxLen w _ _ _ v3⟩
 have h63:((l0++ys).length:Int)≤9223372036854775807:=by have h:=v3;simp only[maxLen]at h;omega
 rcases hdst with⟨p,hxv,rfl⟩ | ⟨r0,b,cap,cur,e',rfl,hxv,hB0,hi,hbk,hle,hmx,hcl,hcr⟩
 ·simp only[List.nil_append]at *;by_cases h0:ys = []
  ·subst h0
   exact asNil p rfl (runOf (by rw[hxv,hyv];exact iT t o.type e j hu hj p 0 0 (Nat.le_refl _) q cap'))
  ·have hpos:0<ys.length:=List.length_pos_iff.2 h0
   cases q with
   | none=>exact absurd (n0 rfl).1 h0
   | some b'=>
    have n2':=n2 b' rfl
    have grown:∀{v:Value}{w':World},(Builtin.append_ #[t,t] o.type #[a.eval x,a.eval y]).run P w = .ok v w'→v = .slice (some ⟨w.heap.size,0,none⟩) ys.length (grownCap w ys.length 0 e)→
      w'=w.drew.alloc (.cells (⟨news++(Builtin.zeroCells z.cells (grownCap w ys.length 0 e - ys.length)).toList⟩:Array Value) e)→Outc P own m u g w o a c { val:=.c (.wsl c),mw:=rm.map (λr=>(r,none))++[(c,some (.row tt ys))],nu:=1 }:=by
     intro v w' hr hv hw;subst hv hw;obtain⟨g1,g2⟩:=capOk 0;refine asNew (grownCap w ys.length 0 e) (news++(Builtin.zeroCells z.cells (grownCap w ys.length 0 e - ys.length)).toList) g1 g2 ?_ ?_ (runOf hr)
     ·rw[LR,n1,hzc,← Nat.add_mul]
      congr 1
      omega
     ·intro k d x p q;have hk:k<(cells F tt ys).length:=(LQ.1 p).1
      rw[List.getElem?_append_left (by omega)]at q
      exact n3 k d x p q
    cases p with
    | none=>
     have hr:=run_append_nil (P:=P) w t o.type e j z hu hj hz b' ys.length cap' news (by rw[n1,hs]) n2' hpos h63 (by rw[hb];omega)
     refine grown (by rw[hxv,hyv];exact hr) rfl ?_
     congr 2
     apply Array.ext';simp
    | some b0=>
     have hr:=run_append_grow (P:=P) w t o.type e j z hu hj hz b0 0 0 [] (by simp) (by simp) b' ys.length cap' news (by rw[n1,hs]) n2' (by omega) (by simpa using h63)
      (growslice_fits (by omega) (by rw[hb,Nat.zero_add];exact v4))
     simp only[Nat.zero_add]at hr
     refine grown (by rw[hxv,hyv];exact hr) rfl ?_
     congr 2
     apply Array.ext';simp
 ·rw[hsz]at hcl
  have htake:cur.take (cells F tt l0).length=cur.take (l0.length*te.size):=by rw[hcl0]
  have hclen:(cells F tt l0).length≤cur.length:=by rw[hcl0,hcl];exact Nat.mul_le_mul_right _ hle
  by_cases h0:ys = []
  ·subst h0;simp only[List.append_nil]at *
   have hr:=runOf (by rw[hxv,hyv];exact iT t o.type e j hu hj (some ⟨b,0,none⟩) l0.length cap hle q cap')
   obtain⟨k1,k2⟩:=moved (rm:=r0) (id:=c) (cn':=(cap,l0.length)) (w':=w) (B:=.row tt l0) hm hfid hB0 rfl hi rfl rfl rfl (Nat.le_refl _) rfl (λ_ _=>rfl) (by
    intro g' hle' hi'
    refine .inr ⟨b,cap,cur,e',hi',hbk,hle,hmx,by rw[hcl,hsz],?_⟩
    intro k d x p q;exact(hcr k d x p q).le hle')
   exact fin hr k1 k2 (.wsl (aT _ _ _) hle hmx)
  ·have hpos:0<ys.length:=List.length_pos_iff.2 h0
   cases q with
   | none=>exact absurd (n0 rfl).1 h0
   | some b'=>
    have n2':=n2 b' rfl;by_cases hroom:l0.length+ys.length≤cap
    ·have hfit:l0.length*j.size+news.length≤(⟨cur⟩:Array Value).size:=by
      rw[hs,n1,← Nat.add_mul];show _≤cur.length;rw[hcl];exact Nat.mul_le_mul_right _ hroom
     have h1:∀u∈news,u.oneCell'=true:=by
      intro x hx;obtain⟨k,hk⟩:=List.getElem?_of_mem hx
      have hlt:k<(cells F tt ys).length:=by have:=(LQ.1 hk).1;omega
      exact(n3 k _ x (LP hlt) hk).oneCell
     have hr:=rL (P:=P) (w:=w) t o.type e e' j hu hj b l0.length cap ⟨cur⟩ hbk b' ys.length cap' news (by rw[n1,hs]) n2' h1 hroom hfit
     rw[hs]at hr
     have hr':=runOf (by rw[hxv,hyv];exact hr)
     obtain⟨k1,k2⟩:=moved (rm:=r0) (id:=c) (cn':=(cap,(l0++ys).length)) (w':=w.setRow b (cur.take (l0.length*te.size)++news++cur.drop (l0.length*te.size+news.length)).toArray) (B:=.row tt (l0++ys)) hm hfid hB0 rfl hi rfl rfl rfl (Nat.le_refl _) (by simp) (λb'' hne=>setRow_other w b b'' _ hne) (by
      intro g' hle' hi'
      refine .inr ⟨b,cap,cur.take (l0.length*te.size)++news++cur.drop (l0.length*te.size+news.length),e',hi',setRow_heap w b _ _ e' _ hbk,by omega,hmx,?_,?_⟩
      ·simp only[LR,List.length_take,List.length_drop,n1];rw[hs,n1,← Nat.add_mul]at hfit;have hfit':(l0.length+ys.length)*te.size≤cur.length:=hfit;rw[Nat.add_mul]at hfit';rw[hsz,← hcl];omega
      ·intro k d x p q;rw[di]at p;rw[← htake]at q
       exact(sM hclen hcr (by rw[n1,hcly]) n3 k d x p q).le hle')
     rw[← hlen]at hr'
     exact fin hr' k1 k2 (.wsl (aT _ _ _) (by omega) hmx)
    ·have holds:∀(k:Nat)(v:Value),(cur.take (l0.length*te.size))[k]? = some v→w.cell? ((⟨b,0,none⟩:Addr).add k)=some v:=by
      intro k v hk;rw[List.getElem?_take]at hk;split at hk
      ·rw[Addr.add_lit,Nat.zero_add];simp only[World.cell?,hbk];simpa using hk
      ·cases hk
     have hlo:(cur.take (l0.length*te.size)).length=l0.length*j.size:=by rw[List.length_take,hs];omega
     have hr:=run_append_grow (P:=P) w t o.type e j z hu hj hz ⟨b,0,none⟩ l0.length cap (cur.take (l0.length*te.size)) hlo holds b' ys.length cap' news (by rw[n1,hs]) n2' (by omega) (by rw[← hlen];exact h63)
      (growslice_fits (by omega) (by rw[hb,← hlen];exact v4))
     rw[← hlen]at hr;obtain⟨g1,g2⟩:=capOk cap
     have harr:((cur.take (l0.length*te.size)).toArray++news.toArray++Builtin.zeroCells z.cells (grownCap w (l0++ys).length cap e - (l0++ys).length)) =
       (⟨cur.take (l0.length*te.size)++news++(Builtin.zeroCells z.cells (grownCap w (l0++ys).length cap e - (l0++ys).length)).toList⟩:Array Value):=by
      apply Array.ext';simp
     rw[harr]at hr
     refine asNew (grownCap w (l0++ys).length cap e) (cur.take (l0.length*te.size)++news++(Builtin.zeroCells z.cells (grownCap w (l0++ys).length cap e - (l0++ys).length)).toList) g1 g2 ?_ ?_ (runOf (by rw[hxv,hyv];exact hr))
     ·rw[LR,LR,hlo,n1,hzc,hs,← Nat.add_mul,← hlen,← Nat.add_mul]
      congr 1
      omega
     ·intro k d x p q;rw[di]at p;rw[← htake]at q
      exact sM hclen hcr (by rw[n1,hcly]) n3 k d x p q
theorem FT(hT:TblOk P T){t e:TypeId}{i te:TI F}(ht:T t=some i)(hde:i.desc = .slice e)(hte:T e=some te)(hz0:0<te.size){x y:Value}{ty:TypeId}{n k:Nat}{cur news:List Value}
  (hx:((∃p,x = .slice p 0 0)∧n=0∧cur = [])∨∃b e' cap,x = .slice (some ⟨b,0,none⟩) n cap∧w.heap[b]? = some (.cells ⟨cur⟩ e' (0,0))∧n≤cap∧cap≤maxLen∧cur.length=cap*te.size)
  (hy:((∃p cap,y = .slice p 0 cap)∧k=0∧news = [])∨∃b' cap',y = .slice (some b') k cap'∧0<k∧news.length=k*te.size∧(∀(j:Nat)(u:Value),news[j]? = some u→w.cell? (b'.add j)=some u)∧∀u∈news,u.oneCell'=true)
  (hlen:n+k≤maxLen) (hby:(n+k)*te.bytes≤140737488355328) :
  ∃v w',(Builtin.append_ #[t,t] ty #[x,y]).run P w = .ok v w'∧w'.os=w.os∧w'.tape=w.tape∧w'.output=w.output∧w.drawn≤w'.drawn∧
   ((n+k=0∧(∃p,v = .slice p 0 0)∧(∃p,x = .slice p 0 0)∧w'=w)∨
    (∃b e' cap arr,x = .slice (some ⟨b,0,none⟩) n cap∧v = .slice (some ⟨b,0,none⟩) (n+k) cap∧w'.heap[b]? = some (.cells ⟨arr⟩ e' (0,0))∧(∀b2,b2≠b→w'.heap[b2]? = w.heap[b2]?)∧w'.heap.size=w.heap.size∧n+k≤cap∧cap≤maxLen∧arr.length=cap*te.size∧
     arr.take ((n+k)*te.size)=cur.take (n*te.size)++news∧(k=0→w'=w))∨
    (∃e' cap arr,v = .slice (some ⟨w.heap.size,0,none⟩) (n+k) cap∧w'.heap[w.heap.size]? = some (.cells ⟨arr⟩ e' (0,0))∧(∀b2,b2<w.heap.size→w'.heap[b2]? = w.heap[b2]?)∧w'.heap.size=w.heap.size+1∧n+k≤cap∧cap≤maxLen∧arr.length=cap*te.size∧
     arr.take ((n+k)*te.size)=cur.take (n*te.size)++news)):=by
 have hu:=hT.und _ _ ht;rw[hde]at hu;obtain⟨j,hj,hs,hb,z,hz,hzs,hzl,hzr⟩:=hT.info e te hte
 have hzc:∀k,(Builtin.zeroCells z.cells k).toList.length=k*te.size:=λk=>by rw[Array.length_toList,size_zeroCells,hzs]
 have h63:((n+k:Nat):Int)≤9223372036854775807:=by have h:=hlen;simp only[maxLen]at h;omega
 have asNew:∀{v:Value}{cap:Nat}{arr:List Value},(Builtin.append_ #[t,t] ty #[x,y]).run P w = .ok v (w.drew.alloc (.cells ⟨arr⟩ e))→v = .slice (some ⟨w.heap.size,0,none⟩) (n+k) cap→n+k≤cap→cap≤maxLen→arr.length=cap*te.size→arr.take ((n+k)*te.size)=cur.take (n*te.size)++news→
   ∃v w',(Builtin.append_ #[t,t] ty #[x,y]).run P w = .ok v w'∧w'.os=w.os∧w'.tape=w.tape∧w'.output=w.output∧w.drawn≤w'.drawn∧
   ((n+k=0∧(∃p,v = .slice p 0 0)∧(∃p,x = .slice p 0 0)∧w'=w)∨
    (∃b e' cap arr,x = .slice (some ⟨b,0,none⟩) n cap∧v = .slice (some ⟨b,0,none⟩) (n+k) cap∧w'.heap[b]? = some (.cells ⟨arr⟩ e' (0,0))∧(∀b2,b2≠b→w'.heap[b2]? = w.heap[b2]?)∧w'.heap.size=w.heap.size∧n+k≤cap∧cap≤maxLen∧arr.length=cap*te.size∧
     arr.take ((n+k)*te.size)=cur.take (n*te.size)++news∧(k=0→w'=w))∨
    (∃e' cap arr,v = .slice (some ⟨w.heap.size,0,none⟩) (n+k) cap∧w'.heap[w.heap.size]? = some (.cells ⟨arr⟩ e' (0,0))∧(∀b2,b2<w.heap.size→w'.heap[b2]? = w.heap[b2]?)∧w'.heap.size=w.heap.size+1∧n+k≤cap∧cap≤maxLen∧arr.length=cap*te.size∧
     arr.take ((n+k)*te.size)=cur.take (n*te.size)++news)):=by
  intro v cap arr h0 h1 h2 h3 h4 h5;refine⟨v,_,h0,rfl,rfl,rfl,Nat.le_succ _,.inr (.inr ⟨e,cap,arr,h1,?_,?_,?_,h2,h3,h4,h5⟩)⟩
  ·exact heap_alloc_new w.drew (.cells ⟨arr⟩ e)
  ·intro b2 hb2;exact heap_alloc_old w.drew (.cells ⟨arr⟩ e) b2 hb2
  ·rw[World.size_alloc];rfl
 rcases hy with⟨⟨q,cap',rfl⟩,rfl,rfl⟩ | ⟨b',cap',rfl,hpos,n1,n2,h1⟩
 ·rcases hx with⟨⟨p,rfl⟩,rfl,rfl⟩ | ⟨b,e',cap,rfl,hbk,hle,hmx,hcl⟩
  ·exact⟨_,w,iT t ty e j hu hj p 0 0 (Nat.le_refl _) q cap',rfl,rfl,rfl,Nat.le_refl _,.inl ⟨rfl,⟨p,rfl⟩,⟨p,rfl⟩,rfl⟩⟩
  ·refine⟨_,w,iT t ty e j hu hj (some ⟨b,0,none⟩) n cap hle q cap',rfl,rfl,rfl,Nat.le_refl _,.inr (.inl ⟨b,e',cap,cur,rfl,rfl,hbk,λ_ _=>rfl,rfl,hle,hmx,hcl,by simp,λ_=>rfl⟩)⟩
 ·rcases hx with⟨⟨p,rfl⟩,rfl,rfl⟩ | ⟨b,e',cap,rfl,hbk,hle,hmx,hcl⟩
  ·simp only[Nat.zero_add,Nat.zero_mul,List.take_zero,List.nil_append]at *;have g1:=grownCap_ge w k 0 e;have g2:=grownCap_le_maxLen w k 0 e hlen
   have hA:(news++(Builtin.zeroCells z.cells (grownCap w k 0 e - k)).toList).length=grownCap w k 0 e*te.size:=by
    rw[LR,n1,hzc,← Nat.add_mul]
    congr 1
    omega
   have hB:(news++(Builtin.zeroCells z.cells (grownCap w k 0 e - k)).toList).take (k*te.size)=news:=by rw[← n1,List.take_left'];rfl
   cases p with
   | none=>
    have hr:=run_append_nil (P:=P) w t ty e j z hu hj hz b' k cap' news (by rw[n1,hs]) n2 hpos h63 (by rw[hb];omega)
    have harr:(news.toArray++Builtin.zeroCells z.cells (grownCap w k 0 e - k))=(⟨news++(Builtin.zeroCells z.cells (grownCap w k 0 e - k)).toList⟩:Array Value):=by apply Array.ext';simp
    rw[harr]at hr;exact asNew hr rfl g1 g2 hA hB
   | some b0=>
    have hr:=run_append_grow (P:=P) w t ty e j z hu hj hz b0 0 0 [] (by simp) (by simp) b' k cap' news (by rw[n1,hs]) n2 (by omega) (by simpa using h63)
     (growslice_fits (by omega) (by rw[hb,Nat.zero_add];exact hby))
    simp only[Nat.zero_add]at hr
    have harr:(([]:List Value).toArray++news.toArray++Builtin.zeroCells z.cells (grownCap w k 0 e - k))=(⟨news++(Builtin.zeroCells z.cells (grownCap w k 0 e - k)).toList⟩:Array Value):=by apply Array.ext';simp
    rw[harr]at hr;exact asNew hr rfl g1 g2 hA hB
  ·have hlo:(cur.take (n*te.size)).length=n*te.size:=by
    rw[List.length_take,hcl];exact Nat.min_eq_left (Nat.mul_le_mul_right _ hle)
   by_cases hroom:n+k≤cap
   ·have hfit:n*j.size+news.length≤(⟨cur⟩:Array Value).size:=by
     rw[hs,n1,← Nat.add_mul];show _≤cur.length;rw[hcl];exact Nat.mul_le_mul_right _ hroom
    have hr:=rL (P:=P) (w:=w) t ty e e' j hu hj b n cap ⟨cur⟩ hbk b' k cap' news (by rw[n1,hs]) n2 h1 hroom hfit
    rw[hs]at hr
    refine⟨_,_,hr,rfl,rfl,rfl,Nat.le_refl _,.inr (.inl ⟨b,e',cap,cur.take (n*te.size)++news++cur.drop (n*te.size+news.length),rfl,rfl,setRow_heap w b _ _ e' _ hbk,λb2 hne=>setRow_other w b b2 _ hne,by simp,hroom,hmx,?_,?_⟩)⟩
    ·rw[hs]at hfit;have hfit:n*te.size+news.length≤cur.length:=hfit;simp only[LR,List.length_drop,hlo];omega
    ·refine⟨?_,λh=>by omega⟩
     rw[List.take_left'];rw[LR,hlo,n1,← Nat.add_mul]
   ·have holds:∀(k:Nat)(v:Value),(cur.take (n*te.size))[k]? = some v→w.cell? ((⟨b,0,none⟩:Addr).add k)=some v:=by
     intro k v hk;rw[List.getElem?_take]at hk;split at hk
     ·rw[Addr.add_lit,Nat.zero_add];simp only[World.cell?,hbk];simpa using hk
     ·cases hk
    have hr:=run_append_grow (P:=P) w t ty e j z hu hj hz ⟨b,0,none⟩ n cap (cur.take (n*te.size)) (by rw[hlo,hs]) holds b' k cap' news (by rw[n1,hs]) n2 (by omega) h63
     (growslice_fits (by omega) (by rw[hb];exact hby))
    have g1:=grownCap_ge w (n+k) cap e;have g2:=grownCap_le_maxLen w (n+k) cap e hlen
    have harr:((cur.take (n*te.size)).toArray++news.toArray++Builtin.zeroCells z.cells (grownCap w (n+k) cap e - (n+k))) =
      (⟨cur.take (n*te.size)++news++(Builtin.zeroCells z.cells (grownCap w (n+k) cap e - (n+k))).toList⟩:Array Value):=by
     apply Array.ext';simp
    rw[harr]at hr;refine asNew hr rfl g1 g2 ?_ ?_
    ·rw[LR,LR,hlo,n1,hzc,← Nat.add_mul,← Nat.add_mul]
     congr 1
     omega
    ·rw[List.take_left'];rw[LR,hlo,n1,← Nat.add_mul]
theorem dX:∀{a b:NS},nbl (a++b)=nbl a++nbl b
 | [],b=>rfl
 | none::a,b=>dX (a:=a)
 | some q::a,b=>by obtain⟨x,y⟩:=q;simp only[List.cons_append,nbl,dX (a:=a)]
theorem zS{imm:Nat→Prop}{t:Ty}{l:List (ET F t)}{b cap:Nat}{n:Nat×NS}(h:OwnN w imm t l (some (b,cap,n))) :
  ∃cur e,w.heap[b]? = some (.cells ⟨cur⟩ e (0,0))∧cur.length=cap*szT F t∧n.1=l.length∧l.length≤cap∧cap≤maxLen∧n.2.length=l.length*szT F t∧(b::nbl n.2).Nodup∧
   (∀(k:Nat)(d:ND F)(x:Value)(pl:Option (Nat×Nat×Nat)),(cells F t l)[k]? = some d→cur[k]? = some x→n.2[k]? = some pl→OwnC w imm d x pl)∧∀u∈cur.take (l.length*szT F t),u.oneCell'=true:=by
 obtain⟨s1,s2,s3,s4,s5,cur,e,s6,s7,s8⟩:=h;rw[ay]at s4;refine⟨cur,e,s6,s7,s1,s2,s3,s4,s5,s8,?_⟩;intro u hu;obtain⟨k,hk⟩:=List.getElem?_of_mem hu;rw[List.getElem?_take]at hk;split at hk
 ·rename_i hlt
  have:=s8 k _ u _ (LP (by rw[ay];exact hlt)) hk (LP (by omega))
  revert this
  generalize(cells F t l)[k]'(by rw[ay];exact hlt)=d
  generalize n.2[k]'(by omega)=pl
  intro h
  cases d with
  | sl t' l'=>
   cases pl with
   | none=>obtain⟨p,rfl⟩:=h.2;rfl
   | some q=>obtain⟨b1,c1,n1⟩:=q;have h2:u = .slice (some ⟨b1,0,none⟩) n1 c1:=h.2;subst h2;rfl
  | _=>exact h.2.2.oneCell
 ·cases hk
theorem yJ{imm imm':Nat→Prop}{w':World}(hi:∀b,imm b→imm' b)(hw:∀b,imm b→w'.heap[b]? = w.heap[b]?){t:Ty}{l ys:List (ET F t)}{ns ns2:NS}{cur cur2 arr:List Value}{b cap:Nat}{e:TypeId}
  (hcur:l.length*szT F t≤cur.length) (hcur2:ys.length*szT F t≤cur2.length) (hn1:ns.length=l.length*szT F t) (hn2:ns2.length=ys.length*szT F t)
  (h1:∀(k:Nat)(d:ND F)(x:Value)(pl:Option (Nat×Nat×Nat)),(cells F t l)[k]? = some d→cur[k]? = some x→ns[k]? = some pl→OwnC w imm d x pl)
  (h2:∀(k:Nat)(d:ND F)(x:Value)(pl:Option (Nat×Nat×Nat)),(cells F t ys)[k]? = some d→cur2[k]? = some x→ns2[k]? = some pl→OwnC w imm d x pl)
  (hh:w'.heap[b]? = some (.cells ⟨arr⟩ e (0,0))) (hlen:(l++ys).length≤cap) (hmx:cap≤maxLen) (harr:arr.length=cap*szT F t) (htake:arr.take ((l.length+ys.length)*szT F t)=cur.take (l.length*szT F t)++cur2.take (ys.length*szT F t))
  (hnd:(b::(nbl ns++nbl ns2)).Nodup) (hold:∀b2∈nbl ns++nbl ns2,w'.heap[b2]? = w.heap[b2]?):OwnN w' imm' t (l++ys) (some (b,cap,(l++ys).length,ns++ns2)):=by
 have hc1:(cells F t l).length=l.length*szT F t:=ay;have hc2:(cells F t ys).length=ys.length*szT F t:=ay
 refine⟨rfl,hlen,hmx,?_,by rw[dX];exact hnd,arr,e,hh,harr,?_⟩
 ·rw[ay,LR,LR,hn1,hn2,Nat.add_mul]
 ·intro k d x pl p1 p2 p3;rw[di]at p1
  have hk:k<(l.length+ys.length)*szT F t:=by have:=(LQ.1 p1).1;rw[LR,hc1,hc2,← Nat.add_mul]at this;exact this
  have p2':(arr.take ((l.length+ys.length)*szT F t))[k]? = some x:=by rw[List.getElem?_take,if_pos hk];exact p2
  rw[htake]at p2'
  have e1:(cur.take (l.length*szT F t)).length=l.length*szT F t:=by rw[List.length_take];omega
  have fin:∀{d:ND F}{pl:Option (Nat×Nat×Nat)},(∀b c,pl=some (b,c)→b∈nbl ns++nbl ns2)→OwnC w imm d x pl→OwnC w' imm' d x pl:=λhm h=>h.chg hi hw (λb c e=>hold b (hm b c e));by_cases hk1:k<l.length*szT F t
  ·rw[List.getElem?_append_left (by omega)]at p1
   rw[List.getElem?_append_left (by omega),List.getElem?_take,if_pos hk1]at p2'
   rw[List.getElem?_append_left (by omega)]at p3
   refine fin ?_ (h1 k d x pl p1 p2' p3);rintro b c rfl;exact List.mem_append_left _ (eU p3)
  ·rw[List.getElem?_append_right (by omega),hc1]at p1
   rw[List.getElem?_append_right (by omega),e1,List.getElem?_take]at p2'
   rw[List.getElem?_append_right (by omega),hn1]at p3
   split at p2'
   ·refine fin ?_ (h2 _ d x pl p1 p2' p3);rintro b c rfl;exact List.mem_append_right _ (eU p3)
   ·cases p2'
theorem xk(hT:TblOk P T)(hm:MemOk own g w m)(hd:∀id,u id=false→g.ids id=none)(hall:∀b,w.heap.size≤b→own.o b)(hfr:u c=false)
  {t e:TypeId} {i te:TI F} (ht:T t=some i) (hde:i.desc = .slice e) (hte:T e=some te) (hz0:0<te.size) {tt:Ty} (hsz:szT F tt=te.size) {x y:Operand}
  (ho:o.op = .call { callee:=.builtin .append,args:=#[x,y],argTypes:=#[t,t] }) {l0 ys r:List (ET F tt)} (hr:app te.bytes l0 ys=some r) {rm:List Nat} {plx ply:Pl}
  (hx:OwnN w g.imm tt l0 plx) (hy:OwnN w g.imm tt ys ply) (hxv:OwnV plx (a.eval x)) (hyv:OwnV ply (a.eval y))
  (hbx:∀b0 c,plx=some (b0,c)→∀b∈b0::nbl c.2.2,∃r∈rm,∃B0,m r=some B0∧B0.owned=true∧g.blk r b) (hby:∀b0 c,ply=some (b0,c)→∀b∈b0::nbl c.2.2,∃r∈rm,∃B0,m r=some B0∧B0.owned=true∧g.blk r b)
  (hdj:∀b0 c b1 c1,plx=some (b0,c)→ply=some (b1,c1)→∀b∈b0::nbl c.2.2,b∉b1::nbl c1.2.2) :
  Outc P own m u g w o a c { val:=.c (.wsl c),mw:=rm.map (λr=>(r,none))++[(c,some (.nrow tt r))],nu:=1 }:=by
 have runOf:∀{v:Value}{w':World},(Builtin.append_ #[t,t] o.type #[a.eval x,a.eval y]).run P w = .ok v w'→(execOp a.eval o).run P w = .ok (.value v) w':=by intro v w' hr;simp only[execOp,ho,resolve,invoke,builtin,Sem.run_bind,Sem.run_pure,Result.andThen_ok,List.map_toArray,List.map_cons,List.map_nil,hr]
 obtain⟨rfl,v3,v4⟩:=GB hr;have hfid:g.ids c=none:=hd c hfr;have hlen:(l0++ys).length=l0.length+ys.length:=LR
 have fin:∀{v:Value}{w':World}{pl:Pl},(execOp a.eval o).run P w = .ok (.value v) w'→MemOk own (g.name c pl) w' (updM m (rm.map (λr=>(r,none))++[(c,some (.nrow tt (l0++ys)))]))∧
   Stp m g w (g.name c pl) w'→RepC (F:=F) (g.name c pl) w' (.wsl c) v→Outc P own m u g w o a c { val:=.c (.wsl c),mw:=rm.map (λr=>(r,none))++[(c,some (.nrow tt (l0++ys)))],nu:=1 }:=by
  intro v w' pl hr k k3;intro next Q hn;unfold Oper.wp;rw[hr];refine hn v w' (g.name c pl) (.c k3) k.1 k.2 ?_;intro id hu' hx';have hx':id<c∨c+1≤id:=hx'
  have:id≠c:=by omega
  rw[bw _ _ _ this];exact hd id hu'
 have low:∀{b:Nat},(∃r∈rm,∃B0,m r=some B0∧B0.owned=true∧g.blk r b)→b<w.heap.size:=by rintro b ⟨r,_,B0,h1,h2,h3⟩;exact(hm.ok r B0 h1).place hm.imm (Blk.noAls h2) h3
 have hX:∃(ns:NS)(cur:List Value),ns.length=l0.length*te.size∧l0.length*te.size≤cur.length∧(nbl ns).Nodup∧(∀(k:Nat)(d:ND F)(x:Value)(pl:Option (Nat×Nat×Nat)),(cells F tt l0)[k]? = some d→cur[k]? = some x→ns[k]? = some pl→OwnC w g.imm d x pl)∧
   (∀b∈nbl ns,∃b0 c,plx=some (b0,c)∧b∈nbl c.2.2∧b≠b0)∧
   (((∃p,a.eval x = .slice p 0 0)∧l0.length=0∧cur = [])∨∃b e' cap,a.eval x = .slice (some ⟨b,0,none⟩) l0.length cap∧w.heap[b]? = some (.cells ⟨cur⟩ e' (0,0))∧l0.length≤cap∧cap≤maxLen∧cur.length=cap*te.size∧∃c,plx=some (b,c)∧b∉nbl ns):=by
  cases plx with
  | none=>
   have hx:l0 = []:=hx;subst hx
   exact⟨[],[],by simp,by simp,List.nodup_nil,λk d x pl h=>by simp[cells]at h,λb hb=>by simp[nbl]at hb,.inl ⟨hxv,rfl,rfl⟩⟩
  | some q=>
   obtain⟨b,cap,n⟩:=q;obtain⟨cur,e',s1,s2,s3,s4,s5,s6,s7,s8,s9⟩:=zS hx;have s7':=List.nodup_cons.1 s7;have hxv:a.eval x = .slice (some ⟨b,0,none⟩) n.1 cap:=hxv;rw[hsz]at s2 s6
   refine⟨n.2,cur,s6,by rw[s2];exact Nat.mul_le_mul_right _ s4,s7'.2,s8,λb1 hb=>⟨b,_,rfl,hb,λe=>s7'.1 (e▸hb)⟩,.inr ⟨b,e',cap,by rw[hxv,s3],s1,s4,s5,s2,_,rfl,s7'.1⟩⟩
 have hY:∃(ns:NS)(cur:List Value),ns.length=ys.length*te.size∧ys.length*te.size≤cur.length∧(nbl ns).Nodup∧(∀(k:Nat)(d:ND F)(x:Value)(pl:Option (Nat×Nat×Nat)),(cells F tt ys)[k]? = some d→cur[k]? = some x→ns[k]? = some pl→OwnC w g.imm d x pl)∧
   (∀b∈nbl ns,∃b0 c,ply=some (b0,c)∧b∈nbl c.2.2)∧
   (((∃p cap,a.eval y = .slice p 0 cap)∧ys.length=0∧cur.take (ys.length*te.size) = [])∨∃b' cap',a.eval y = .slice (some b') ys.length cap'∧0<ys.length∧(cur.take (ys.length*te.size)).length=ys.length*te.size∧(∀(j:Nat)(u:Value),(cur.take (ys.length*te.size))[j]? = some u→w.cell? (b'.add j)=some u)∧∀u∈cur.take (ys.length*te.size),u.oneCell'=true):=by
  cases ply with
  | none=>
   have hy:ys = []:=hy;subst hy;obtain⟨p,hyv⟩:=hyv
   exact⟨[],[],by simp,by simp,List.nodup_nil,λk d x pl h=>by simp[cells]at h,λb hb=>by simp[nbl]at hb,.inl ⟨⟨p,0,hyv⟩,rfl,by simp⟩⟩
  | some q=>
   obtain⟨b,cap,n⟩:=q;obtain⟨cur,e',s1,s2,s3,s4,s5,s6,s7,s8,s9⟩:=zS hy;have s7':=List.nodup_cons.1 s7;have hyv:a.eval y = .slice (some ⟨b,0,none⟩) n.1 cap:=hyv;rw[hsz]at s2 s6 s9
   have hle:ys.length*te.size≤cur.length:=by rw[s2];exact Nat.mul_le_mul_right _ s4
   refine⟨n.2,cur,s6,hle,s7'.2,s8,λb1 hb=>⟨b,_,rfl,hb⟩,?_⟩;by_cases h0:ys.length=0
   ·exact .inl ⟨⟨_,cap,by rw[hyv,s3,h0]⟩,h0,by rw[h0];simp⟩
   ·refine .inr ⟨_,cap,by rw[hyv,s3],by omega,by rw[List.length_take];omega,?_,s9⟩
    intro j u hj;rw[List.getElem?_take]at hj;split at hj
    ·rw[Addr.add_lit,Nat.zero_add];simp only[World.cell?,s1];simpa using hj
    ·cases hj
 obtain⟨ns,cur,x1,x2,x3,x4,x5,x6⟩:=hX;obtain⟨ns2,cur2,y1,y2,y3,y4,y5,y6⟩:=hY
 have inX:∀b∈nbl ns,∃r∈rm,∃B0,m r=some B0∧B0.owned=true∧g.blk r b:=by intro b hb;obtain⟨b0,c,e1,e2,_⟩:=x5 b hb;exact hbx b0 c e1 b (List.mem_cons_of_mem _ e2)
 have inY:∀b∈nbl ns2,∃r∈rm,∃B0,m r=some B0∧B0.owned=true∧g.blk r b:=by intro b hb;obtain⟨b0,c,e1,e2⟩:=y5 b hb;exact hby b0 c e1 b (List.mem_cons_of_mem _ e2)
 have hXY:(nbl ns++nbl ns2).Nodup:=by refine List.nodup_append.2 ⟨x3,y3,?_⟩;rintro b hb b1 hb1 rfl;obtain⟨b0,c,e1,e2,_⟩:=x5 b hb;obtain⟨b1,c1,f1,f2⟩:=y5 b hb1;exact hdj _ _ _ _ e1 f1 b (List.mem_cons_of_mem _ e2) (List.mem_cons_of_mem _ f2)
 have inXY:∀b∈nbl ns++nbl ns2,∃r∈rm,∃B0,m r=some B0∧B0.owned=true∧g.blk r b:=by
  intro b hb;rcases List.mem_append.1 hb with hb | hb
  ·exact inX b hb
  ·exact inY b hb
 have hx0:((∃p,a.eval x = .slice p 0 0)∧l0.length=0∧cur = [])∨∃b e' cap,a.eval x = .slice (some ⟨b,0,none⟩) l0.length cap∧w.heap[b]? = some (.cells ⟨cur⟩ e' (0,0))∧l0.length≤cap∧cap≤maxLen∧cur.length=cap*te.size:=by
  rcases x6 with h | ⟨b,e',cap,h1,h2,h3,h4,h5,_⟩
  ·exact .inl h
  ·exact .inr ⟨b,e',cap,h1,h2,h3,h4,h5⟩
 obtain⟨v,w',hrun,o1,o2,o3,o4,hcase⟩:=FT (P:=P) (w:=w) (ty:=o.type) hT ht hde hte hz0 hx0 y6 (by rw[← hlen];exact v3) (by rw[← hlen];exact v4)
 have hrun':=runOf hrun;rw[← hsz]at *;rcases hcase with⟨h0,⟨p,rfl⟩,_,rfl⟩ | ⟨b,e',cap,arr,hxe,rfl,h1,h2,h3,h4,h5,h6,h7,h8⟩ | ⟨e',cap,arr,rfl,h1,h2,h3,h4,h5,h6,h7⟩
 ·have hnil:l0++ys = []:=List.eq_nil_of_length_eq_zero (by omega)
  refine fin (pl:=none) hrun' (gz hm hfid (λ_ _ h=>by cases h) rfl rfl rfl (Nat.le_refl _) (Nat.le_refl _) (λ_ _ _=>rfl) (λg' _ hi=>⟨none,hi,hnil⟩)) (.wsl0 p (aT _ _ _))
 ·rcases x6 with⟨⟨p,hp⟩,_,rfl⟩ | ⟨b1,e1,cap1,hp,hh,_,_,_,c1,hpl,hnb⟩
  ·rw[hxe]at hp
   injection hp with e1 e2 e3
   subst e3
   have hy0:ys.length=0:=by omega
   have hnil:l0++ys = []:=List.eq_nil_of_length_eq_zero (by omega)
   have:=h8 hy0;subst this
   refine fin (pl:=none) hrun' (gz hm hfid (λ_ _ h=>by cases h) rfl rfl rfl (Nat.le_refl _) (Nat.le_refl _) (λ_ _ _=>rfl) (λg' _ hi=>⟨none,hi,hnil⟩)) ?_
   rw[e2,hy0];exact .wsl0 _ (aT _ _ _)
  ·rw[hxe]at hp;cases hp;have hblk:=hbx b c1 hpl b List.mem_cons_self
   have hnb2:b∉nbl ns2:=by intro hb;obtain⟨b2,c2,f1,f2⟩:=y5 b hb;exact hdj _ _ _ _ hpl f1 b List.mem_cons_self (List.mem_cons_of_mem _ f2)
   have hnd:(b::(nbl ns++nbl ns2)).Nodup:=List.nodup_cons.2 ⟨λhb=>(List.mem_append.1 hb).elim hnb hnb2,hXY⟩
   refine fin (pl:=some (b,cap,(l0++ys).length,ns++ns2)) hrun' (gz hm hfid ?_ o1 o2 o3 o4 (by omega) ?_ ?_) ?_
   ·intro b0 c0 e0 b1 hb1;cases e0;rcases List.mem_cons.1 hb1 with rfl | hb1
    ·exact .inr hblk
    ·simp only[dX]at hb1;exact .inr (inXY b1 hb1)
   ·intro b2 hb2 hno;refine h2 b2 ?_;rintro rfl;obtain⟨r,hr,B0,q1,q2,q3⟩:=hblk;exact hno r hr B0 q1 q2 q3
   ·intro g' hle hi
    refine⟨_,hi,yJ hle.imm hle.heap x2 y2 x1 y1 x4 y4 h1 (by omega) h5 h6 h7 hnd ?_⟩
    intro b2 hb2;refine h2 b2 ?_;rintro rfl;exact(List.nodup_cons.1 hnd).1 hb2
   ·rw[← hlen]
    exact .wsl (n:=((l0++ys).length,ns++ns2)) (aT _ _ _) (by dsimp only;omega) h5
 ·have hnd:(w.heap.size::(nbl ns++nbl ns2)).Nodup:=List.nodup_cons.2 ⟨λhb=>Nat.lt_irrefl _ (low (inXY _ hb)),hXY⟩
  refine fin (pl:=some (w.heap.size,cap,(l0++ys).length,ns++ns2)) hrun' (gz hm hfid ?_ o1 o2 o3 o4 (by omega) ?_ ?_) ?_
  ·intro b0 c0 e0 b1 hb1;cases e0;rcases List.mem_cons.1 hb1 with rfl | hb1
   ·exact .inl ⟨Nat.le_refl _,by omega,hall _ (Nat.le_refl _)⟩
   ·simp only[dX]at hb1;exact .inr (inXY b1 hb1)
  ·intro b2 hb2 _;exact h2 b2 hb2
  ·intro g' hle hi
   exact⟨_,hi,yJ hle.imm hle.heap x2 y2 x1 y1 x4 y4 h1 (by omega) h5 h6 h7 hnd (λb2 hb2=>h2 b2 (low (inXY b2 hb2)))⟩
  ·rw[← hlen]
   exact .wsl (n:=((l0++ys).length,ns++ns2)) (aT _ _ _) (by dsimp only;omega) h5
theorem u9(hm:MemOk own g w m){id:Nat}{t:Ty}{l:List (ET F t)}(h:m id=some (.nrow t l)){v:Value}(hv:RepC (F:=F) g w (.wsl id) v):∃pl,g.ids id=some pl∧OwnN w g.imm t l pl∧OwnV pl v:=by
 obtain⟨pl,k1,k2⟩:=hm.ok id _ h;refine⟨pl,k1,k2,?_⟩;rcases aU hv with⟨hi,p,rfl⟩ | ⟨b,c,n,hi,h1,h2,rfl⟩
 ·rw[hi]at k1;cases k1;exact⟨p,rfl⟩
 ·rw[hi]at k1;cases k1;rfl
theorem Eh(hT:TblOk P T){t0 t1:TypeId}{x y:Operand}(ho:o.op = .call { callee:=.builtin .append,args:=#[x,y],argTypes:=#[t0,t1] }):Rule P o vals mm c K (BG T vals mm c K t0 t1):=by
 unfold BG;refine au (λ_=>ad) (λhtt=>?_)
 have htt':t1=t0:=by simpa using htt
 subst htt';split
 ·rename_i e sz bt zero _ _ ht;split
  ·exact ad
  ·rename_i te hte;split
   ·exact ad
   ·rename_i tt htt;have hsz:=hT.ty e te tt hte htt;refine au (λ_=>ad) (λhz0=>?_);split
    ·rename_i rm l0 ys hnr;refine ax λr hr=>?_;intro r' hr';refine⟨_,hr',?_⟩;intro own g w a m u hle hm hd hall hfr hrep;rw[ho]at hrep;simp only[Op.operands,Call.operands,List.map_cons,List.map_nil,Array.toList_append,List.map_append,List.nil_append]at hrep;unfold Ff at hnr;split at hnr
     ·rename_i id2;split at hnr
      ·rename_i t2 l2 hrow;split at hnr
       ·rename_i hk;subst hk;simp only[Option.some.injEq,Prod.mk.injEq]at hnr;obtain⟨rfl,rfl,h⟩:=hnr;subst h;obtain⟨h1,h2⟩:=reps2 hrep;obtain⟨pl,k1,k2,k3⟩:=u9 hm (hle _ _ hrow) (aO h2)
        refine xk (plx:=none) hT hm hd hall (hfr 0 (by simp)) ht rfl hte (by omega) hsz ho hr rfl k2 (pn h1) k3 (λ_ _ h=>by cases h) ?_ (λ_ _ _ _ h=>by cases h)
        rintro b0 c rfl b hb
        exact⟨id2,by simp,_,hle _ _ hrow,rfl,b0,c,k1,hb⟩
       ·cases hnr
      ·cases hnr
     ·rename_i id id2;split at hnr
      ·rename_i t1 l1 t2 l2 hrow1 hrow;split at hnr
       ·rename_i hk;subst hk;split at hnr
        ·rename_i hk;subst hk;split at hnr
         ·cases hnr
         ·rename_i hne;simp only[Option.some.injEq,Prod.mk.injEq]at hnr;obtain⟨rfl,h,h'⟩:=hnr;subst h h';obtain⟨h1,h2⟩:=reps2 hrep;obtain⟨pl,k1,k2,k3⟩:=u9 hm (hle _ _ hrow) (aO h2);obtain⟨plx,q1,q2,q3⟩:=u9 hm (hle _ _ hrow1) (aO h1)
          refine xk hT hm hd hall (hfr 0 (by simp)) ht rfl hte (by omega) hsz ho hr q2 k2 q3 k3 ?_ ?_ ?_
          ·rintro b0 c rfl b hb
           exact⟨id,by simp,_,hle _ _ hrow1,rfl,b0,c,q1,hb⟩
          ·rintro b0 c rfl b hb
           exact⟨id2,by simp,_,hle _ _ hrow,rfl,b0,c,k1,hb⟩
          ·rintro b0 c b1 c1 rfl rfl b hb hb1;have:=hm.dis id id2 _ _ b (hle _ _ hrow1) (hle _ _ hrow) rfl rfl ⟨b0,c,q1,hb⟩ ⟨b1,c1,k1,hb1⟩;subst this;exact hne (aV _)
        ·cases hnr
       ·cases hnr
      ·cases hnr
     ·cases hnr
    split
    ·rename_i dx dy;split
     ·exact ad
     ·rename_i ys hys;split
      ·refine ax λr hr=>?_;intro r' hr';refine⟨_,hr',?_⟩;intro own g w a m u hle hm hd hall hfr hrep;rw[ho]at hrep;simp only[Op.operands,Call.operands,List.map_cons,List.map_nil,Array.toList_append,List.map_append,List.nil_append]at hrep;obtain⟨h1,h2⟩:=reps2 hrep;obtain⟨p,hp⟩:=pn h1
       exact yE (rm:=[]) hT hm hd hall (hfr 0 (by simp)) ht rfl hte (by omega) hsz ho hr (Aa hm hle hys h2) (.inl ⟨p,hp,rfl⟩)
      ·rename_i id;split
       ·rename_i t' l hrow;split
        ·rename_i hk;subst hk;refine ax λr hr=>?_;intro r' hr';refine⟨_,hr',?_⟩;intro own g w a m u hle hm hd hall hfr hrep;rw[ho]at hrep;simp only[Op.operands,Call.operands,List.map_cons,List.map_nil,Array.toList_append,List.map_append,List.nil_append]at hrep;obtain⟨h1,h2⟩:=reps2 hrep
         refine yE (rm:=[id]) hT hm hd hall (hfr 0 (by simp)) ht rfl hte (by omega) hsz ho hr (Aa hm hle hys h2) ?_
         rcases aU (aO h1)with⟨hi,p,hv⟩ | ⟨b,cap,n,hi,h3,h4,hv⟩
         ·rcases hm.ok id _ (hle _ _ hrow)with⟨_,rfl⟩ | ⟨_,_,_,_,k1,_⟩
          ·exact .inl ⟨p,hv,rfl⟩
          ·rw[hi]at k1;cases k1
         ·rcases hm.ok id _ (hle _ _ hrow)with⟨k1,_⟩ | ⟨b',cap',cur,e',k1,k2,k3,k4,k5,k6⟩
          ·rw[hi]at k1;cases k1
          ·rw[hi]at k1;cases k1;exact .inr ⟨id,b,cap,cur,e',rfl,hv,hle _ _ hrow,hi,k2,k3,k4,k5,k6⟩
        ·exact ad
       ·exact ad
      ·exact ad
    ·exact ad
 ·exact ad
theorem BS{t:Ty}{l ys:List (ET F t)}{a n:Nat}(h:a+min n ys.length≤l.length):cells F t (cpy l a n ys)=(cells F t l).take (a*szT F t)++(cells F t ys).take (n*szT F t)++(cells F t l).drop (a*szT F t+((cells F t ys).take (n*szT F t)).length):=by
 have h1:cells F t (l.take a)=(cells F t l).take (a*szT F t):=by have:=fb (F:=F) (l:=l) (a:=0) (n:=a);simpa[Fx.sub]using this
 have h2:cells F t (ys.take n)=(cells F t ys).take (n*szT F t):=by have:=fb (F:=F) (l:=ys) (a:=0) (n:=n);simpa[Fx.sub]using this
 have h3:∀k,cells F t (l.drop k)=(cells F t l).drop (k*szT F t):=by
  intro k;have:=fb (F:=F) (l:=l) (a:=k) (n:=l.length);unfold Fx.sub at this
  rw[List.take_of_length_le (by simp)]at this
  rw[this,List.take_of_length_le];rw[List.length_drop,ay];omega
 unfold cpy;rw[di,di,h1,h2,h3]
 congr 2
 rw[List.length_take,ay,Nat.add_mul]
 congr 1
 exact(Nat.mul_min_mul_right _ _ _).symm
theorem Dn{t t1 ty e:TypeId}{j:TypeInfo}(hu:P.underlying t=some (.slice e))(hj:P.info? e=some j){b q dLen dCap:Nat}{p:Option Addr}{sLen sCap:Nat}{cur news:List Value}{e':TypeId}
  (hb:w.heap[b]? = some (.cells ⟨cur⟩ e' (0,0))) (hl:news.length=sLen*j.size) (hp0:p=none→sLen=0) (hp:∀p',p=some p'→∀(k:Nat)(x:Value),news[k]? = some x→w.cell? (p'.add k)=some x)
  (h1:∀x∈news,x.oneCell'=true) (hfit:q+(news.take (dLen*j.size)).length≤cur.length) :
  (Builtin.copy_ #[t,t1] ty #[.slice (some ⟨b,q,none⟩) dLen dCap,.slice p sLen sCap]).run P w =
    .ok (goInt ((min sLen dLen:Nat):Int)) (w.setRow b (cur.take q++news.take (dLen*j.size)++cur.drop (q+(news.take (dLen*j.size)).length)).toArray):=by
 have hn:(news.take (dLen*j.size)).length=(min sLen dLen)*j.size:=by rw[List.length_take,hl,Nat.mul_min_mul_right,Nat.min_comm]
 have hst:=run_storeCells_at P b q e' (news.take (dLen*j.size)) 0 ⟨cur⟩ w hb (by simpa using hfit) (λv hv=>h1 v (List.mem_of_mem_take hv))
 simp only[Nat.add_zero]at hst
 cases p with
 | none=>
  have h0:=hp0 rfl;subst h0
  have hnil:news = []:=List.eq_nil_of_length_eq_zero (by simpa using hl)
  subst hnil;simp only[List.take_nil]at hst ⊢;have hm:Nat.min 0 dLen=0:=Nat.zero_min dLen;have hm2:min 0 dLen=0:=Nat.zero_min dLen;simp only[Builtin.copy_,Sem.run_bind,Sem.run_pure,run_underlying hu,Builtin.lenOf,Builtin.firstCells,sizeOf,typeInfo,run_program,hj,Result.andThen_ok,List.getElem?_toArray,hst,hm,hm2];simp[Builtin.copy_,run_underlying hu,Builtin.lenOf,Builtin.firstCells,sizeOf,typeInfo,hj,hst,hm]
 | some p'=>
  have hf:=run_firstCells_some (P:=P) w j.size (min sLen dLen) p' sLen sCap (news.take (dLen*j.size)) hn (λk x hx=>by
   rw[List.getElem?_take]at hx;split at hx
   ·exact hp p' rfl k x hx
   ·cases hx)
  have hm:Nat.min sLen dLen=min sLen dLen:=rfl
  have hc:(((min sLen dLen:Nat)):Int)=min (sLen:Int) (dLen:Int):=by omega
  simp[Builtin.copy_,run_underlying hu,Builtin.lenOf,sizeOf,typeInfo,hj,hf,hm,hst,hc]
theorem yg{α : Type}{l ys:List α}{a n:Nat}(h:a+min n ys.length≤l.length):(cpy l a n ys).length=l.length:=by unfold cpy;simp only[LR,List.length_take,List.length_drop];omega
theorem Ck(hT:TblOk P T)(hm:MemOk own g w m)(hd:∀id,u id=false→g.ids id=none)
  {t t1 e:TypeId} {i te:TI F} (ht:T t=some i) (hde:i.desc = .slice e) (hte:T e=some te) {tt:Ty} (hsz:szT F tt=te.size) {x y:Operand}
  (ho:o.op = .call { callee:=.builtin .copy,args:=#[x,y],argTypes:=#[t,t1] }) {l ys:List (ET F tt)} {id off n:Nat} (hrow:m id=some (.row tt l)) (hsrc:SrcOk g w tt (a.eval y) ys)
  (hdst:(g.ids id=none∨g.ids id=some none)∧off=0∧n=0∧(∃p,a.eval x = .slice p 0 0)∨∃b q dCap cap,g.ids id=some (some (b,cap,l.length,[]))∧a.eval x = .slice (some ⟨b,q,none⟩) n dCap∧off+n≤l.length∧(n=0∨q=off*szT F tt)) :
  Outc P own m u g w o a c { val:=.c (.im (.i .i64 (min n ys.length:Nat))),mw:=[(id,some (.row tt (cpy l off n ys)))] }:=by
 have hu:=hT.und _ _ ht;rw[hde]at hu;obtain⟨j,hj,hs,hb,z,hz,hzs,hzl,hzr⟩:=hT.info e te hte
 have runOf:∀{v:Value}{w':World},(Builtin.copy_ #[t,t1] o.type #[a.eval x,a.eval y]).run P w = .ok v w'→(execOp a.eval o).run P w = .ok (.value v) w':=by intro v w' hr;simp only[execOp,ho,resolve,invoke,builtin,Sem.run_bind,Sem.run_pure,Result.andThen_ok,List.map_toArray,List.map_cons,List.map_nil,hr]
 obtain⟨q',cap',news,hyv,n1,n0,n2,n3⟩:=hsrc
 have same:∀{l':List (ET F tt)},l'=l→updM m [(id,some (.row tt l'))]=m:=by
  rintro l' rfl
  funext x
  simp only[updM];split
  ·rename_i hx;rw[← Nat.eq_of_beq_eq_true hx,hrow]
  ·rfl
 have h1:∀x∈news,x.oneCell'=true:=by
  intro x hx;obtain⟨k,hk⟩:=List.getElem?_of_mem hx
  have hlt:k<(cells F tt ys).length:=by have:=(LQ.1 hk).1;rw[ay];omega
  exact(n3 k _ x (LP hlt) hk).oneCell
 rcases hdst with⟨hid,rfl,rfl,p,hxv⟩ | ⟨b,q,dCap,cap,hid,hxv,hoff,hq⟩
 ·have hl:cpy l 0 0 ys=l:=by simp[cpy]
  have hrun:(execOp a.eval o).run P w = .ok (.value (goInt 0)) w:=by
   refine runOf ?_;rw[hxv,hyv];have e1:Nat.min ys.length 0=0:=Nat.min_zero _
   cases p<;>cases q'<;>simp[Builtin.copy_,run_underlying hu,Builtin.lenOf,Builtin.firstCells,sizeOf,typeInfo,hj,e1,storeCells,loadCells,loadCellsFrom]
  intro next Q hn;unfold Oper.wp;rw[hrun]
  refine hn _ w g ?_ (by rw[same hl];exact hm) (.refl _ _ _) (λid hu _=>hd id hu)
  have:((min 0 ys.length:Nat):Int)=0:=by simp
  rw[this];exact mk_i _ _
 ·rcases hm.ok id _ hrow with⟨k1,_⟩ | ⟨b',cap2,cur,e',k1,k2,k3,k4,k5,k6⟩
  ·rw[k1]at hid;cases hid
  ·rw[k1]at hid;cases hid;have hcl:(cells F tt l).length=l.length*szT F tt:=ay
   have hcur:(cells F tt l).length≤cur.length:=by rw[hcl,k5];exact Nat.mul_le_mul_right _ k3
   have hm1:off+min n ys.length≤l.length:=by omega
   by_cases hn0:n=0
   ·
    subst hn0
    have hrun:=Dn (P:=P) (w:=w) (t1:=t1) (ty:=o.type) (dLen:=0) (dCap:=dCap) (q:=0) (p:=q') (sLen:=ys.length) (sCap:=cap') hu hj k2 (by rw[n1,hsz,hs]) (λh=>by rw[(n0 h).1];rfl) n2 h1 (by simp)
    have hrun':(execOp a.eval o).run P w = .ok (.value (goInt 0)) w:=by
     refine runOf ?_;rw[hxv,hyv];have e1:Nat.min ys.length 0=0:=Nat.min_zero _
     cases q'<;>simp[Builtin.copy_,run_underlying hu,Builtin.lenOf,Builtin.firstCells,sizeOf,typeInfo,hj,e1,storeCells,loadCells,loadCellsFrom]
    have hl:cpy l off 0 ys=l:=by simp[cpy]
    intro next Q hn;unfold Oper.wp;rw[hrun']
    refine hn _ w g ?_ (by rw[same hl];exact hm) (.refl _ _ _) (λid hu _=>hd id hu)
    have:((min 0 ys.length:Nat):Int)=0:=by simp
    rw[this];exact mk_i _ _
   ·have hq:q=off*szT F tt:=hq.resolve_left hn0;subst hq
    have htk:(news.take (n*j.size)).length=min n ys.length*szT F tt:=by rw[List.length_take,n1,hs,← hsz,Nat.mul_min_mul_right]
    have hfit:off*szT F tt+(news.take (n*j.size)).length≤cur.length:=by rw[htk,← Nat.add_mul];have:(off+min n ys.length)*szT F tt≤l.length*szT F tt:=Nat.mul_le_mul_right _ hm1;omega
    have hrun:=Dn (P:=P) (w:=w) (t1:=t1) (ty:=o.type) (dLen:=n) (dCap:=dCap) (q:=off*szT F tt) (p:=q') (sLen:=ys.length) (sCap:=cap') hu hj k2 (by rw[n1,hsz,hs]) (λh=>by rw[(n0 h).1];rfl) n2 h1 hfit
    obtain⟨w1,w2⟩:=xQ (B':=.row tt (cpy l off n ys)) (arr:=cur.take (off*szT F tt)++news.take (n*j.size)++cur.drop (off*szT F tt+(news.take (n*j.size)).length)) hm hrow rfl k1 k2 (by
     intro hh hle'
     refine .inr ⟨b,cap,_,e',by rw[yg hm1];exact k1,hh,by rw[yg hm1];exact k3,k4,?_,?_⟩
     ·simp only[LR,List.length_take,List.length_drop];rw[List.length_take]at hfit;omega
     ·intro k d x p q;refine RepI.le hle' ?_;rw[BS hm1]at p
      have e1:n*j.size=n*szT F tt:=by rw[hs,hsz]
      rw[e1]at q htk;refine uN (w:=w) (imm:=g.imm) (cs:=cells F tt l) (ds:=(cells F tt ys).take (n*szT F tt)) (cur:=cur) (vs:=news.take (n*szT F tt)) (q:=off*szT F tt) ?_ hcur k6 ?_ ?_ k d x p q
      ·rw[List.length_take,ay,ay,Nat.mul_min_mul_right,← Nat.add_mul];exact Nat.mul_le_mul_right _ hm1
      ·rw[htk,List.length_take,ay,Nat.mul_min_mul_right]
      ·intro k d x h3 h4;rw[List.getElem?_take]at h3 h4;split at h3
       ·rename_i hk;rw[if_pos hk]at h4;exact n3 k d x h3 h4
       ·cases h3)
    intro next Q hn;unfold Oper.wp
    rw[runOf (by rw[hxv,hyv];exact hrun)]
    refine hn _ _ g ?_ w1 w2 (λid hu _=>hd id hu);rw[Nat.min_comm];exact mk_i _ _
theorem G7(hT:TblOk P T){t t1:TypeId}{x y:Operand}(ho:o.op = .call { callee:=.builtin .copy,args:=#[x,y],argTypes:=#[t,t1] }):Rule P o vals mm c K (tCopy T vals mm K t):=by
 unfold tCopy;split
 ·rename_i e _ _ _ _ _ ht;split
  ·exact ad
  ·rename_i te hte;split
   ·rename_i id dy;split
    ·rename_i tt l hrow;refine au (λhsz=>?_) (λ_=>ad);split
     ·rename_i ys hys;intro r' hr';refine⟨_,hr',?_⟩;intro own g w a m u hle hm hd hall hfr hrep;rw[ho]at hrep;simp only[Op.operands,Call.operands,List.map_cons,List.map_nil,Array.toList_append,List.map_append,List.nil_append]at hrep;obtain⟨h1,h2⟩:=reps2 hrep;refine Ck hT hm hd ht rfl hte hsz ho (hle _ _ hrow) (Aa hm hle hys h2) ?_;rcases aU (aO h1)with⟨hi,p,hv⟩ | ⟨b,cap,n,hi,h3,h4,hv⟩
      ·rcases hm.ok id _ (hle _ _ hrow)with⟨_,rfl⟩ | ⟨_,_,_,_,k1,_⟩
       ·exact .inl ⟨.inr hi,rfl,rfl,p,hv⟩
       ·rw[hi]at k1;cases k1
      ·obtain⟨rfl,_,_⟩:=bQ hm (hle _ _ hrow) hi
       exact .inr ⟨b,0,cap,cap,hi,hv,by omega,.inr (by simp)⟩
     ·exact ad
    ·exact ad
   ·rename_i id sz off n dy;split
    ·rename_i tt l hrow;refine au (λhsz=>?_) (λ_=>ad);simp only[Bool.and_eq_true,decide_eq_true_eq,beq_iff_eq]at hsz;obtain⟨hsz,rfl⟩:=hsz;split
     ·rename_i ys hys;intro r' hr';refine⟨_,hr',?_⟩;intro own g w a m u hle hm hd hall hfr hrep;rw[ho]at hrep;simp only[Op.operands,Call.operands,List.map_cons,List.map_nil,Array.toList_append,List.map_append,List.nil_append]at hrep;obtain⟨h1,h2⟩:=reps2 hrep;refine Ck hT hm hd ht rfl hte hsz ho (hle _ _ hrow) (Aa hm hle hys h2) ?_;rcases nP (aO h1)with⟨hi,rfl,rfl,p,hv⟩ | ⟨b,cap,len,q,hi,h3,h4,h5,h6,hv⟩
      ·exact .inl ⟨.inr hi,rfl,rfl,p,hv⟩
      ·obtain⟨rfl,_,_⟩:=bQ hm (hle _ _ hrow) hi;refine .inr ⟨b,q,_,cap,hi,hv,h3,?_⟩;rcases h5 with⟨h5,_⟩ | h5
       ·left;omega
       ·right;rw[h5,hsz]
     ·exact ad
    ·exact ad
   ·exact ad
 ·exact ad
end
set_option linter.unusedVariables false
set_option linter.unusedSimpArgs false
abbrev pt3(x:Nat×Nat×Nat):Nat×Nat×Nat×NS:=(x.1,x.2.1,x.2.2,[])
def plBlks:List Pl→List Nat
 | []=>[]
 | some (b,c)::l=>b::(nbl c.2.2++plBlks l)
 | none::l=>plBlks l
section
variable{F:Fam}{P:Program}
def HeldC(w:World)(imm:Nat→Prop)(ow:List Nat):Nat→List (ND F)→List Value→List Pl→Prop
 | _,[],[],pls=>pls = []
 | k,d::ds,v::vs,pls=>
  if memN k ow then match d with
   | .sl t l=>∃pl rest,pls=pl::rest∧OwnX w imm t l pl∧OwnVX t pl v∧HeldC w imm ow (k+1) ds vs rest
   | _=>False
  else if memN (k+1000) ow then match d with
   | .sl t l=>∃pl rest,pls=pl::rest∧OwnN w imm t l pl∧OwnV pl v∧HeldC w imm ow (k+1) ds vs rest
   | _=>False
  else RepI w imm d v∧HeldC w imm ow (k+1) ds vs pls
 | _,_,_,_=>False
def HeldV(w:World)(imm:Nat→Prop)(t:Ty)(ow:List Nat)(x:ET F t)(v:Value)(pls:List Pl):Prop:=
 if t.isSt then∃vs,v = .agg ⟨vs⟩∧HeldC w imm ow 0 (encT F t x) vs pls else HeldC w imm ow 0 (encT F t x) [v] pls
def HeldB(w:World)(imm:Nat→Prop)(t:Ty)(ow:List Nat)(x:ET F t)(b:Nat)(pls:List Pl):Prop:=
 ∃arr e,w.heap[b]? = some (.cells ⟨arr⟩ e (0,0))∧HeldC w imm ow 0 (encT F t x) arr pls
def RowV:Bool→Pl→Value→Prop
 | false,pl,v=>OwnV pl v
 | true,pl,v=>∃b c,pl=some (b,c)∧v = .pointer (some ⟨b,0,none⟩)
def RowX(t:Ty)(arr:Bool)(pl:Pl)(v:Value):Prop:=if t.isMp=true then∃b,pl=some (b,0,0,[])∧v = .map (some b)else RowV arr pl v
def PkV(w:World)(imm:Nat→Prop)(k:Nat)(ds:List (ND F))(v:Value):Prop:=
 ∃(b1 b2:Nat)(y:Value),v = .pointer (some ⟨b1,0,none⟩)∧imm b1∧imm b2∧w.cell? ⟨b1,0,none⟩=some (.pointer (some ⟨b2,0,none⟩))∧w.cell? ⟨b2,k,none⟩=some y∧RepT w imm (ds,false) y
theorem PkV.lift{w w':World}{imm imm':Nat→Prop}(hw:∀b,imm b→imm' b∧w'.heap[b]? = w.heap[b]?){k:Nat}{ds:List (ND F)}{v:Value}(h:PkV w imm k ds v):PkV w' imm' k ds v:=by
 obtain⟨b1,b2,y,rfl,h1,h2,h3,h4,h5⟩:=h
 exact⟨b1,b2,y,rfl,(hw _ h1).1,(hw _ h2).1,by rw[cell?_of_heap (hw _ h1).2];exact h3,by rw[cell?_of_heap (hw _ h2).2];exact h4,h5.mono (λb hb=>(hw b hb).1) (λb hb=>(hw b hb).2)⟩
def Held(P:Program)(w:World)(imm:Nat→Prop):(k:Kd)→k.El F→Value→List Pl→List Pl→Prop
 | .v t ow,x,v,pls,bxs=>HeldV w imm t ow x v pls∧bxs = []
 | .box t ow,x,v,pls,bxs=>∃(bx:Nat×Nat×Nat)(rest:List Pl),bxs = [some (pt3 bx)]∧pls=some (pt3 bx)::rest∧v = .pointer (some ⟨bx.1,0,none⟩)∧HeldB w imm t ow x bx.1 rest
 | .rp t,x,v,pls,bxs=>pls = []∧bxs = []∧RepC (F:=F) ⟨λ_=>none,imm,λ_=>False⟩ w (.pt (encT F t x) 0) v
 | .fn ks r,φ,v,pls,bxs=>pls = []∧bxs = []∧FvOk P F w imm ks r φ v
 | .row t arr,x,v,pls,bxs=>∃pl,bxs = [pl]∧pls = [pl]∧OwnX w imm t x pl∧RowX t arr pl v
 | .rpp t,x,v,pls,bxs=>pls = []∧bxs = []∧RepC (F:=F) ⟨λ_=>none,imm,λ_=>False⟩ w (.ppt (encT F t x)) v
 | .pk k t,x,v,pls,bxs=>pls = []∧bxs = []∧PkV w imm k (encT F t x) v
 | .ln t,x,v,pls,bxs=>pls = []∧bxs = []∧∃I:Nat→Prop,(∀b,I b→b<w.heap.size)∧HeldV w I t [] x v []
 | .nb t ow,x,v,pls,bxs=>∃(bx:Nat×Nat×Nat)(rest:List Pl),bxs = []∧pls=some (pt3 bx)::rest∧v = .pointer (some ⟨bx.1,0,none⟩)∧HeldB w imm t ow x bx.1 rest
def c_(P:Program)(w:World)(imm:Nat→Prop):(ks:List Kd)→HL F ks→List Value→List Pl→List Pl→Prop
 | [],_,vs,pls,bxs=>vs = []∧pls = []∧bxs = []
 | k::ks,a,vs,pls,bxs=>∃v vs' p1 p2 b1 b2,vs=v::vs'∧pls=p1++p2∧bxs=b1++b2∧Held P w imm k a.1 v p1 b1∧c_ P w imm ks a.2 vs' p2 b2
def bC(P:Program)(w:World)(imm:Nat→Prop):(ks:List Kd)→TL F ks→List Value→List Pl→List Pl→Prop
 | [],_,vs,bxs,pls=>vs = []∧bxs = []∧pls = []
 | [.box t ow],x,vs,bxs,pls=>∃bx:Nat×Nat×Nat,vs = []∧bxs = [some (pt3 bx)]∧HeldB w imm t (oo ow) x bx.1 pls
 | .box t ow::l::ks,a,vs,bxs,pls=>∃(bx:Nat×Nat×Nat)(bxs':List Pl)(p1 p2:List Pl),bxs=some (pt3 bx)::bxs'∧pls=p1++p2∧HeldB w imm t (oo ow) a.1 bx.1 p1∧bC P w imm (l::ks) a.2 vs bxs' p2
 | [.row t _],x,vs,bxs,pls=>∃pl,vs = []∧bxs = [pl]∧OwnX w imm t x pl∧pls = []
 | .row t _::l::ks,a,vs,bxs,pls=>∃(pl:Pl)(bxs':List Pl),bxs=pl::bxs'∧OwnX w imm t a.1 pl∧bC P w imm (l::ks) a.2 vs bxs' pls
 | [k],x,vs,bxs,pls=>∃v,vs = [v]∧bxs = []∧Held P w imm k x v pls []
 | k::l::ks,a,vs,bxs,pls=>∃v vs' p1 p2,vs=v::vs'∧pls=p1++p2∧Held P w imm k a.1 v p1 []∧bC P w imm (l::ks) a.2 vs' bxs p2
structure PlOk(w:World)(imm:Nat→Prop)(bs:List Nat):Prop where
 nodup:bs.Nodup
 imm:∀b∈bs,¬ imm b
 lt:∀b∈bs,b<w.heap.size
def tupV:List Value→Value
 | [v]=>v
 | vs=>.tuple ⟨vs⟩
def outs(sp:Spec F):List Kd:=sp.rs++sp.ks.filter Kd.isBox
def FnOk(P:Program)(f:FuncId)(sp:Spec F):Prop:=
 bc P f∧∀(a:HL F sp.ks)(r:TL F (outs sp)),sp.D a=some r→∀(imm:Nat→Prop)(w:World)(vs:List Value)(pls:List Pl) (bxs:List Pl),
  c_ P w imm sp.ks a vs pls bxs→PlOk w imm (plBlks pls)→(∀b,imm b→b<w.heap.size)→
  Calls P f ⟨vs⟩ w λe w'=>∃(rvs:List Value)(imm':Nat→Prop)(pls':List Pl),e = .returned (tupV rvs)∧
   w'.os=w.os∧w'.tape=w.tape∧w'.output=w.output∧w.drawn≤w'.drawn∧w.heap.size≤w'.heap.size∧(∀b,b<w.heap.size→b∉plBlks pls→w'.heap[b]? = w.heap[b]?)∧
   (∀b,imm b→imm' b)∧(∀b,imm' b→imm b∨b∈plBlks pls∨w.heap.size≤b)∧(∀b,imm' b→b<w'.heap.size)∧
   bC P w' imm' (outs sp) r rvs bxs pls'∧PlOk w' imm' (plBlks bxs++plBlks pls')∧∀b∈plBlks bxs++plBlks pls',b∈plBlks pls∨w.heap.size≤b
def plOf(g:G):Option Nat→Pl
 | some i=>(g.ids i).getD none
 | none=>none
theorem HeldC.le{w:World}{imm imm':Nat→Prop}(hi:∀b,imm b→imm' b){ow:List Nat}:∀{ds:List (ND F)} {k:Nat} {vs:List Value} {pls:List Pl},HeldC w imm ow k ds vs pls→HeldC w imm' ow k ds vs pls
 | [],k,vs,pls,h=>by cases vs<;>simp_all [HeldC]
 | d::ds,k,vs,pls,h=>by
  cases vs with
  | nil=>simp[HeldC]at h
  | cons v vs=>
   simp only[HeldC]at h ⊢;split
   ·rename_i hk;rw[if_pos hk]at h;split at h
    ·obtain⟨pl,rest,h1,h2,h3,h4⟩:=h;exact⟨pl,rest,h1,h2.chg hi (λ_ _=>rfl) (λ_ _ _=>rfl),h3,h4.le hi⟩
    ·exact h.elim
   ·rename_i hk;rw[if_neg hk]at h;split
    ·rename_i hk2;rw[if_pos hk2]at h;split at h
     ·obtain⟨pl,rest,h1,h2,h3,h4⟩:=h;exact⟨pl,rest,h1,h2.chg hi (λ_ _=>rfl) (λ_ _ _ _ _=>rfl),h3,h4.le hi⟩
     ·exact h.elim
    ·rename_i hk2;rw[if_neg hk2]at h;exact⟨h.1.mono hi (λ_ _=>rfl),h.2.le hi⟩
section
variable{own:Ow}{g:G}{w:World}{m mm:Nat→Option (Blk F)}
theorem E2(hm:MemOk own g w m){id:Nat}{t:Ty}{l:List (ET F t)}(h:m id=some (.row t l)):bv w g.imm t l (plOf g (some id)):=by
 rcases hm.ok id _ h with⟨h1,h2⟩ | ⟨b,cap,cur,e,k1,k2,k3,k4,k5,k6⟩
 ·simp[plOf,h1,bv,h2]
 ·have:plOf g (some id)=some (b,cap,l.length,[]):=by simp[plOf,k1]
  rw[this];exact⟨rfl,k3,k4,cur,e,k2,k5,k6⟩
theorem uA(hm:MemOk own g w m){id:Nat}{t:Ty}{l:List (ET F t)}(h:m id=some (.mp t l)):∃b,plOf g (some id)=some (b,0,0,[])∧g.ids id=some (some (b,0,0,[]))∧MapAt w g.imm t l b:=by
 obtain⟨b,h1,h2⟩:=hm.ok id _ h
 exact⟨b,by simp[plOf,h1],h1,h2⟩
theorem uq{id:Nat}{v:Value}(h:RepC (F:=F) g w (.mpc id) v):∃b c,g.ids id=some (some (b,c))∧v = .map (some b):=by
 cases h with | mpc h=>exact⟨_,_,h,rfl⟩
theorem Ew(hm:MemOk own g w m)(hle:MLe mm m){x:Cel F}{d:ND F}{o:Option Nat}(h:w7 mm x=some (d,o)){d':ND F}(hd:NLe d d')(hnn:d'≠.nl){v:Value}(hv:RepC g w x v) :
  ∃t l,d' = .sl t l∧OwnX w g.imm t l (plOf g o)∧OwnVX t (plOf g o) v:=by
 unfold w7 at h;split at h
 ·rename_i id;split at h
  ·rename_i t l hrow
   cases ht:t.isMp with
   | true=>rw[ht]at h;cases h
   | false=>
    rw[ht]at h;cases h
    cases hd with
    | refl=>
     refine⟨t,l,rfl,by rw[dD ht];exact E2 hm (hle _ _ hrow),?_⟩
     rw[gE ht];rcases aU hv with⟨hi,p,rfl⟩ | ⟨b,c,n,hi,h1,h2,rfl⟩
     ·simp[plOf,hi,OwnV]
     ·simp[plOf,hi,OwnV]
  ·cases h
 ·rename_i id;split at h
  ·rename_i t l hrow
   cases ht:t.isMp with
   | false=>rw[ht]at h;cases h
   | true=>
    rw[ht]at h;cases h
    cases hd with
    | refl=>
     obtain⟨b,k1,k2,k3⟩:=uA hm (hle _ _ hrow);obtain⟨b',c',k4,rfl⟩:=uq hv;rw[k2]at k4;cases k4;refine⟨t,l,rfl,?_,?_⟩
     ·unfold OwnX;rw[if_pos ht];exact⟨b,k1,k3⟩
     ·unfold OwnVX;rw[if_pos ht];exact⟨b,k1,rfl⟩
  ·cases h
 ·cases h
  cases hd with
  | refl=>exact absurd rfl hnn
  | nl t ht=>
   obtain⟨p,rfl⟩:=pn (P:=default) (.c hv)
   exact⟨t,[],rfl,by rw[dD ht];rfl,by rw[gE ht];exact⟨p,rfl⟩⟩
 ·cases h
theorem C8(hm:MemOk own g w m)(hle:MLe mm m){x:Cel F}{d:ND F}{o:Option Nat}(h:tU mm x=some (d,o)){d':ND F}(hd:NLe d d')(hnn:d'≠.nl){v:Value}(hv:RepC g w x v) :
  ∃t l,d' = .sl t l∧OwnN w g.imm t l (plOf g o)∧OwnV (plOf g o) v:=by
 unfold tU at h;split at h
 ·rename_i id;have hv:=za hm hle hv;simp only[resC]at hv;unfold Bp at h;split at h
  ·rename_i t l hrow;cases h
   cases hd with
   | refl=>
    obtain⟨pl,k1,k2,k3⟩:=u9 hm (hle _ _ hrow) hv
    have e:plOf g (some (resI mm id))=pl:=by simp[plOf,k1]
    rw[e];exact⟨t,l,rfl,k2,k3⟩
  ·cases h
 ·cases h
  cases hd with
  | refl=>exact absurd rfl hnn
  | nl t _=>obtain⟨p,rfl⟩:=pn (P:=default) (.c hv);exact⟨t,[],rfl,rfl,p,rfl⟩
 ·cases h
theorem tz{ow:List Nat}{k:Nat}{x:Cel F}{r:List (Cel F)}{ds:List (ND F)}{os:List (Option Nat)}{fz:List Nat}(h:dH mm ow k (x::r)=some (ds,os,fz)) :
  (memN k ow=true∧∃d o ds' os',w7 mm x=some (d,o)∧dH mm ow (k+1) r=some (ds',os',fz)∧ds=d::ds'∧os=o::os')∨
  (memN k ow=false∧memN (k+1000) ow=true∧∃d o ds' os',tU mm x=some (d,o)∧dH mm ow (k+1) r=some (ds',os',fz)∧ds=d::ds'∧os=o::os')∨
  (memN k ow=false∧memN (k+1000) ow=false∧∃d i ds' fz',celND mm x=some (d,i)∧dH mm ow (k+1) r=some (ds',os,fz')∧ds=d::ds'∧fz=i++fz'):=by
 simp only[dH]at h;split at h
 ·rename_i hk;split at h
  ·cases h
  ·rename_i d o hd;split at h
   ·cases h
   ·rename_i ds' os' fz' hr;cases h;exact .inl ⟨hk,d,o,ds',os',hd,hr,rfl,rfl⟩
 ·rename_i hk;split at h
  ·rename_i hk2;split at h
   ·cases h
   ·rename_i d o hd;split at h
    ·cases h
    ·rename_i ds' os' fz' hr;cases h
     exact .inr (.inl ⟨by simpa using hk,hk2,d,o,ds',os',hd,hr,rfl,rfl⟩)
  ·rename_i hk2;split at h
   ·cases h
   ·rename_i d i hd;split at h
    ·cases h
    ·rename_i ds' os' fz' hr;cases h
     exact .inr (.inr ⟨by simpa using hk,by simpa using hk2,d,i,ds',fz',hd,hr,rfl,rfl⟩)
theorem pd{ow:List Nat}:∀{cs:List (Cel F)} {k:Nat} {ds:List (ND F)} {os:List (Option Nat)} {fz:List Nat},dH mm ow k cs=some (ds,os,fz)→∀id∈fz,RwN mm id
 | [],k,ds,os,fz,h=>by simp only[dH,Option.some.injEq]at h;cases h;simp
 | x::r,k,ds,os,fz,h=>by
  rcases tz h with⟨_,d,o,ds',os',h1,h2,rfl,rfl⟩ | ⟨_,_,d,o,ds',os',h1,h2,rfl,rfl⟩ | ⟨_,_,d,i,ds',fz',h1,h2,rfl,rfl⟩
  ·exact pd h2
  ·exact pd h2
  ·intro id hid;rcases List.mem_append.1 hid with hid | hid
   ·exact B3 h1 id hid
   ·exact pd h2 id hid
theorem pq{ow:List Nat}:∀{cs:List (Cel F)} {k:Nat} {ds:List (ND F)} {os:List (Option Nat)} {fz:List Nat},dH mm ow k cs=some (ds,os,fz)→∀id,some id∈os→∃B,mm id=some B∧B.owned=true
 | [],k,ds,os,fz,h=>by simp only[dH,Option.some.injEq]at h;cases h;simp
 | x::r,k,ds,os,fz,h=>by
  rcases tz h with⟨_,d,o,ds',os',h1,h2,rfl,rfl⟩ | ⟨_,_,d,o,ds',os',h1,h2,rfl,rfl⟩ | ⟨_,_,d,i,ds',fz',h1,h2,rfl,rfl⟩
  ·intro id hid;rcases List.mem_cons.1 hid with rfl | hid
   ·unfold w7 at h1;split at h1
    ·split at h1
     ·rename_i t l hrow
      cases ht:t.isMp with
      | true=>rw[ht]at h1;cases h1
      | false=>rw[ht]at h1;cases h1;exact⟨_,hrow,rfl⟩
     ·cases h1
    ·split at h1
     ·rename_i t l hrow
      cases ht:t.isMp with
      | false=>rw[ht]at h1;cases h1
      | true=>rw[ht]at h1;cases h1;exact⟨_,hrow,rfl⟩
     ·cases h1
    ·cases h1
    ·cases h1
   ·exact pq h2 id hid
  ·intro id hid;rcases List.mem_cons.1 hid with rfl | hid
   ·unfold tU at h1;split at h1
    ·unfold Bp at h1;split at h1
     ·rename_i hrow;cases h1;exact⟨_,hrow,rfl⟩
     ·cases h1
    ·cases h1
    ·cases h1
   ·exact pq h2 id hid
  ·exact pq h2
theorem ir(hm:MemOk own g w m)(hle:MLe mm m){ow:List Nat}{imm':Nat→Prop}(hi:∀b,g.imm b→imm' b):∀{cs:List (Cel F)} {k:Nat} {ds ds':List (ND F)} {os:List (Option Nat)} {fz:List Nat},dH mm ow k cs=some (ds,os,fz)→Les ds ds'→(∀d∈ds',d≠.nl)→
  (∀id∈fz,∀b,g.blk id b→imm' b)→∀{vs:List Value},vs.length=cs.length→(∀(k:Nat)(x:Cel F)(v:Value),cs[k]? = some x→vs[k]? = some v→RepC g w x v)→HeldC w imm' ow k ds' vs (os.map (plOf g))
 | [],k,ds,ds',os,fz,h,hl,ho,hf,vs,hv,hr=>by simp only[dH,Option.some.injEq]at h;cases h;have h1:ds' = []:=List.eq_nil_of_length_eq_zero hl.1.symm;have h2:vs = []:=List.eq_nil_of_length_eq_zero hv;subst h1 h2;rfl
 | x::r,k,ds,ds',os,fz,h,hl,ho,hf,vs,hv,hr=>by
  match vs,hv with
  | v::vs,hv=>
   have hx:=hr 0 x v rfl rfl;have hr':∀(k:Nat)(x:Cel F)(v:Value),r[k]? = some x→vs[k]? = some v→RepC g w x v:=λk x v a b=>hr (k+1) x v a b;rcases tz h with⟨hk,d,o,ds0,os',h1,h2,rfl,rfl⟩ | ⟨hk,hk2,d,o,ds0,os',h1,h2,rfl,rfl⟩ | ⟨hk,hk2,d,i,ds0,fz',h1,h2,rfl,rfl⟩
   ·match ds',hl with
    | d'::ds',hl=>
     have hd:NLe d d':=hl.2 0 d d' rfl rfl
     have hl':Les ds0 ds':=⟨by simpa using hl.1,λk a b h1 h2=>hl.2 (k+1) a b h1 h2⟩
     obtain⟨t,l,rfl,h3,h4⟩:=Ew hm hle h1 hd (ho _ (by simp)) hx
     simp only[HeldC,hk,if_true,List.map_cons]
     exact⟨_,_,rfl,h3.chg hi (λ_ _=>rfl) (λ_ _ _=>rfl),h4,ir hm hle hi h2 hl' (λd hd=>ho d (by simp[hd])) hf (by simpa using hv) hr'⟩
    | [],hl=>exact absurd hl.1 (by simp)
   ·match ds',hl with
    | d'::ds',hl=>
     have hd:NLe d d':=hl.2 0 d d' rfl rfl
     have hl':Les ds0 ds':=⟨by simpa using hl.1,λk a b h1 h2=>hl.2 (k+1) a b h1 h2⟩
     obtain⟨t,l,rfl,h3,h4⟩:=C8 hm hle h1 hd (ho _ (by simp)) hx
     simp only[HeldC,hk,hk2,Bool.false_eq_true,if_false,if_true,List.map_cons]
     exact⟨_,_,rfl,h3.chg hi (λ_ _=>rfl) (λ_ _ _ _ _=>rfl),h4,ir hm hle hi h2 hl' (λd hd=>ho d (by simp[hd])) hf (by simpa using hv) hr'⟩
    | [],hl=>exact absurd hl.1 (by simp)
   ·match ds',hl with
    | d'::ds',hl=>
     have hd:NLe d d':=hl.2 0 d d' rfl rfl
     have hl':Les ds0 ds':=⟨by simpa using hl.1,λk a b h1 h2=>hl.2 (k+1) a b h1 h2⟩
     simp only[HeldC,hk,hk2,Bool.false_eq_true,if_false]
     refine⟨?_,ir hm hle hi h2 hl' (λd hd=>ho d (by simp[hd])) (λid hid=>hf id (by simp[hid])) (by simpa using hv) hr'⟩
     exact(CV hm hle h1 (g1:=⟨g.ids,imm',g.len⟩) ⟨λ_ _ h=>h,hi,λ_ _=>rfl,λ_ h=>h,λ_ _=>rfl⟩ (λid hid=>hf id (by simp[hid])) hx).nle hd
    | [],hl=>exact absurd hl.1 (by simp)
end
end
set_option linter.unusedVariables false
set_option linter.unusedSimpArgs false
section
variable{F:Fam}{P:Program}{own:Ow}{g:G}{w:World}{m mm:Nat→Option (Blk F)}
structure Frz(g:G)(ids:List Nat)(im:Nat→Prop):Prop where
 imm:∀b,g.imm b→im b
 fz:∀id∈ids,∀b,g.blk id b→im b
theorem Frz.sub{fz fz':List Nat}{imm:Nat→Prop}(h:Frz g fz imm)(hs:∀id∈fz',id∈fz):Frz g fz' imm:=⟨h.imm,λid hid=>h.fz id (hs id hid)⟩
theorem uV(hm:MemOk own g w m)(hle:MLe mm m){t:Ty}{ow:List Nat}{d:Dat F}{p:Pk (ET F t)}(h:packV mm t ow d=some p){imm:Nat→Prop}(hi:Frz g p.fz imm){v:Value}(hr:RepD P g w d v) :
  HeldV w imm t ow p.x v (p.os.map (plOf g))∧p.bx = []∧(∀id∈p.fz,RwN mm id)∧(∀id,some id∈p.os→∃B,mm id=some B∧B.owned=true):=by
 unfold packV at h;split at h
 ·cases h
 ·rename_i cs hcs;split at h
  ·cases h
  ·rename_i ds os fz hds;split at h
   ·cases h
   ·rename_i x hx;cases h;refine⟨?_,rfl,pd hds,λid hid=>?_⟩
    ·have hles:=bG F hx;have hnn:=uu hx;unfold DZ at hcs;split at hcs
     ·rename_i y;split at hcs
      ·cases hcs
      ·rename_i hst;cases hcs;unfold HeldV;rw[if_neg hst];refine ir hm hle hi.imm hds hles hnn hi.fz rfl ?_;intro k c u h1 h2
       cases k with
       | zero=>simp only[List.getElem?_cons_zero,Option.some.injEq]at h1 h2;subst h1 h2;exact aO hr
       | succ k=>simp at h1
     ·rename_i cs';split at hcs
      ·rename_i hst;cases hcs;unfold HeldV;rw[if_pos hst];obtain⟨vs,rfl,hl,hrr⟩:=n9 hr;exact⟨vs,rfl,ir hm hle hi.imm hds hles hnn hi.fz hl hrr⟩
      ·cases hcs
     ·cases hcs
    ·exact pq hds id hid
theorem my(hm:MemOk own g w m)(hle:MLe mm m){t:Ty}{ow:List Nat}{d:Dat F}{p:Pk (ET F t)}(h:lB mm t ow d=some p){imm:Nat→Prop}(hi:Frz g p.fz imm){v:Value}(hr:RepD P g w d v) :
  ∃(id:Nat)(bx:Nat×Nat×Nat)(os:List (Option Nat)),p.os=some id::os∧p.bx = [id]∧d = .c (.ptr id 0)∧g.ids id=some (some (pt3 bx))∧v = .pointer (some ⟨bx.1,0,none⟩)∧HeldB w imm t ow p.x bx.1 (os.map (plOf g))∧
   (∀id∈p.fz,RwN mm id)∧(∀id,some id∈p.os→∃B,mm id=some B∧B.owned=true):=by
 unfold lB at h;split at h
 ·rename_i id;split at h
  ·rename_i cs hbox;split at h
   ·cases h
   ·rename_i ds os fz hds;split at h
    ·cases h
    ·rename_i x hx;cases h;obtain⟨b,cn,hid,rfl⟩:=bh hr;obtain⟨b',cn',arr,e,k1,k2,k3,k4⟩:=hm.ok id _ (hle _ _ hbox);rw[k1]at hid;cases hid;refine⟨id,(b,cn'),os,rfl,rfl,rfl,k1,rfl,⟨arr,e,k2,ir hm hle hi.imm hds (bG F hx) (uu hx) hi.fz k3 k4⟩,pd hds,λid' hid'=>?_⟩;rcases List.mem_cons.1 hid' with h1 | h1
     ·cases h1;exact⟨_,hbox,rfl⟩
     ·exact pq hds id' h1
  ·cases h
 ·cases h
theorem eY{t:Ty}{l:List (ET F t)}:(blkX t l).owned=true:=by
 unfold blkX;cases t.isMp<;>rfl
theorem yG(hm:MemOk own g w m)(hle:MLe mm m){t:Ty}{id:Nat}{p:Pk (List (ET F t))}(h:tZ mm t id=some p) :
  p.os = [some id]∧p.bx = [id]∧p.fz = []∧OwnX w g.imm t p.x (plOf g (some id))∧∃l:List (ET F t),mm id=some (blkX t l):=by
 unfold tZ at h;split at h
 ·rename_i t' l hrow;split at h
  ·rename_i e;subst e
   cases ht:t'.isMp with
   | true=>rw[ht]at h;cases h
   | false=>
    rw[ht]at h;cases h
    exact⟨rfl,rfl,rfl,by rw[dD ht];exact E2 hm (hle _ _ hrow),l,by unfold blkX;rw[ht];exact hrow⟩
  ·cases h
 ·rename_i t' l hrow;split at h
  ·rename_i e;subst e
   cases ht:t'.isMp with
   | false=>rw[ht]at h;cases h
   | true=>
    rw[ht]at h;cases h;obtain⟨b,k1,k2,k3⟩:=uA hm (hle _ _ hrow)
    exact⟨rfl,rfl,rfl,by unfold OwnX;rw[if_pos ht];exact⟨b,k1,k3⟩,l,by unfold blkX;rw[ht];exact hrow⟩
  ·cases h
 ·cases h
theorem OwnX.le{imm imm':Nat→Prop}(hi:∀b,imm b→imm' b){t:Ty}{l:List (ET F t)}{pl:Pl}(h:OwnX w imm t l pl):OwnX w imm' t l pl:=h.chg hi (λ_ _=>rfl) (λ_ _ _=>rfl)
theorem bv.le{imm imm':Nat→Prop}(hi:∀b,imm b→imm' b){t:Ty}{l:List (ET F t)}{pl:Pl}(h:bv w imm t l pl):bv w imm' t l pl:=h.chg hi (λ_ _=>rfl) (λ_ _ _=>rfl)
theorem w9{t:Ty}{arr:Bool}{d:Dat F}{id:Nat}(h:AG t arr d=some id):d=datOf t arr id:=by
 unfold AG at h;split at h
 ·cases ht:t.isMp with
  | true=>rw[ht]at h;cases h
  | false=>
   rw[ht]at h;simp only[cond_false]at h;split at h
   ·rename_i ha;cases h;subst ha;unfold datOf;rw[ht];rfl
   ·cases h
 ·cases ht:t.isMp with
  | true=>rw[ht]at h;cases h
  | false=>
   rw[ht]at h;simp only[cond_false]at h;split at h
   ·cases h
   ·rename_i ha;cases h;unfold datOf;rw[ht];simp[ha]
 ·cases ht:t.isMp with
  | false=>rw[ht]at h;cases h
  | true=>rw[ht]at h;cases h;unfold datOf;rw[ht];rfl
 ·cases h
theorem Cd{t:Ty}{arr:Bool}{id:Nat}{v:Value}(hr:RepD (F:=F) P g w (datOf t arr id) v):(∃pl,g.ids id=some pl)∧(t.isMp=false→RowV arr (plOf g (some id)) v)∧(t.isMp=true→∃b c,g.ids id=some (some (b,c))∧v = .map (some b)):=by
 unfold datOf at hr
 cases ht:t.isMp with
 | true=>
  rw[ht]at hr;obtain⟨b,c,hi,rfl⟩:=uq (aO hr)
  exact⟨⟨_,hi⟩,λe=>(by cases e),λ_=>⟨b,c,hi,rfl⟩⟩
 | false=>
  rw[ht]at hr
  cases arr with
  | true=>
   obtain⟨b,c,hi,rfl⟩:=bh hr
   exact⟨⟨_,hi⟩,λ_=>⟨b,c,by simp[plOf,hi],rfl⟩,λe=>(by cases e)⟩
  | false=>
   rcases aU (aO hr)with⟨hi,p,rfl⟩ | ⟨b,c,n,hi,h1,h2,rfl⟩
   ·exact⟨⟨_,hi⟩,λ_=>by simp[RowV,plOf,hi,OwnV],λe=>(by cases e)⟩
   ·exact⟨⟨_,hi⟩,λ_=>by simp[RowV,plOf,hi,OwnV],λe=>(by cases e)⟩
theorem wE(hm:MemOk own g w m)(hle:MLe mm m){t:Ty}{arr:Bool}{d:Dat F}{p:Pk (List (ET F t))}(h:Bo mm t arr d=some p){imm:Nat→Prop}(hi:∀b,g.imm b→imm b){v:Value}(hr:RepD P g w d v) :
  ∃id pl,p.os = [some id]∧p.bx = [id]∧p.fz = []∧d=datOf t arr id∧g.ids id=some pl∧OwnX w imm t p.x pl∧RowX t arr pl v∧∃l:List (ET F t),mm id=some (blkX t l):=by
 unfold Bo at h;split at h
 ·rename_i id hn;have hd:=w9 hn;subst hd;obtain⟨h1,h2,h3,h4,h5⟩:=yG hm hle h;obtain⟨⟨pl,k1⟩,k2,k3⟩:=Cd hr
  have e:plOf g (some id)=pl:=by simp[plOf,k1]
  rw[e]at h4 k2;refine⟨id,pl,h1,h2,h3,rfl,k1,h4.le hi,?_,h5⟩;unfold RowX
  cases ht:t.isMp with
  | true=>rw[if_pos rfl];obtain⟨b,c,k4,rfl⟩:=k3 ht;unfold OwnX at h4;rw[if_pos ht]at h4;obtain⟨b',k5,_⟩:=h4;rw[k1,k5]at k4;cases k4;exact⟨_,k5,rfl⟩
  | false=>rw[if_neg (by simp)];exact k2 ht
 ·cases h
theorem D_{imm:Nat→Prop}{cs ds:List (ND F)}(hl:Les cs ds){b o:Nat}(hb:imm b)(h:∀k d,cs[k]? = some d→∃x,w.cell? ⟨b,o+k,none⟩=some x∧RepI w imm d x) :
  RepC (F:=F) ⟨λ_=>none,imm,λ_=>False⟩ w (.pt ds 0) (.pointer (some ⟨b,o,none⟩)):=by
 have key:∀k d,ds[k]? = some d→∃x,w.cell? ⟨b,o+k,none⟩=some x∧RepI w imm d x:=by
  intro k d hk
  have hlt:k<cs.length:=by rw[hl.1];exact(LQ.1 hk).1
  obtain⟨x,h1,h2⟩:=h k _ (LP hlt);exact⟨x,h1,h2.nle (hl.2 k _ d (LP hlt) hk)⟩
 have:=RepC.pt (F:=F) (g:=⟨λ_=>none,imm,λ_=>False⟩) (w:=w) ds 0 b o (λk=>(w.cell? ⟨b,o+k,none⟩).getD undef) hb
  (λk d hk=>by obtain⟨x,h1,h2⟩:=key k d hk;rw[h1];rfl) (λk d hk=>by obtain⟨x,h1,h2⟩:=key k d hk;rw[h1];exact h2)
 exact this
theorem yQ(hm:MemOk own g w m)(hle:MLe mm m){t:Ty}{d:Dat F}{p:Pk (ET F t)}(h:Ap mm t d=some p){imm:Nat→Prop}(hi:Frz g p.fz imm){v:Value}(hr:RepD P g w d v) :
  RepC (F:=F) ⟨λ_=>none,imm,λ_=>False⟩ w (.pt (encT F t p.x) 0) v∧p.os = []∧p.bx = []∧Fzl mm p.fz:=by
 unfold Ap at h;split at h
 ·split at h
  ·rename_i cs x hx;cases h;obtain⟨b,o,f,hb,rfl,hc,hrr⟩:=uw hr
   exact⟨D_ (bG F hx) (hi.imm b hb) (λk d hk=>⟨_,hc k d hk,(hrr k d hk).mono hi.imm (λ_ _=>rfl)⟩),rfl,rfl,λid hid=>by simp at hid⟩
  ·cases h
 ·rename_i id;split at h
  ·rename_i cs hbox;split at h
   ·cases h
   ·rename_i ds fz hds;split at h
    ·cases h
    ·rename_i x hx;cases h;obtain⟨b,cn,hid,rfl⟩:=bh hr;obtain⟨b',cn',arr,e,k1,k2,k3,k4⟩:=hm.ok id _ (hle _ _ hbox);rw[k1]at hid;cases hid
     refine⟨D_ (bG F hx) (hi.fz id (by simp) b (G.blk_main k1)) ?_,rfl,rfl,?_⟩
     ·intro k d hk
      have hlt:k<arr.length:=by rw[k3,← dQ hds];exact(LQ.1 hk).1
      refine⟨arr[k],by simp[World.cell?,k2,hlt],?_⟩
      exact ft hm hle hds (g1:=⟨g.ids,imm,g.len⟩) ⟨λ_ _ h=>h,hi.imm,λ_ _=>rfl,λ_ h=>h,λ_ _=>rfl⟩ (λid' hid' b' hb'=>hi.fz id' (by simp[hid']) b' hb') arr k4 k d _ hk (LP hlt)
     ·intro id' hid';rcases List.mem_cons.1 hid' with rfl | hid'
      ·exact .inr (.inl ⟨cs,ds,fz,hbox,hds,λx hx=>by simp[hx]⟩)
      ·exact .inl (mV hds id' hid')
  ·rename_i cs hbox;split at h
   ·rename_i x hx;cases h;obtain⟨b,cn,hid,rfl⟩:=bh hr;obtain⟨b',cn',k1,k2,k3⟩:=hm.ok id _ (hle _ _ hbox);rw[k1]at hid;cases hid
    refine⟨D_ (bG F hx) (hi.imm b k2) ?_,rfl,rfl,λid hid=>by simp at hid⟩
    intro k d hk;obtain⟨y,q1,q2⟩:=k3 k d hk
    exact⟨y,by rw[Nat.zero_add];exact q1,q2.mono hi.imm (λ_ _=>rfl)⟩
   ·cases h
  ·cases h
 ·cases h
theorem Fg{imm:Nat→Prop}{cs ds:List (ND F)}(hl:Les cs ds){b o b2 o2:Nat}(hb:imm b)(hv:w.cell? ⟨b,o,none⟩=some (.pointer (some ⟨b2,o2,none⟩)))(hb2:imm b2)(h:∀k d,cs[k]? = some d→∃x,w.cell? ⟨b2,o2+k,none⟩=some x∧RepI w imm d x) :
  RepC (F:=F) ⟨λ_=>none,imm,λ_=>False⟩ w (.ppt ds) (.pointer (some ⟨b,o,none⟩)):=by
 have key:∀k d,ds[k]? = some d→∃x,w.cell? ⟨b2,o2+k,none⟩=some x∧RepI w imm d x:=by
  intro k d hk
  have hlt:k<cs.length:=by rw[hl.1];exact(LQ.1 hk).1
  obtain⟨x,h1,h2⟩:=h k _ (LP hlt);exact⟨x,h1,h2.nle (hl.2 k _ d (LP hlt) hk)⟩
 exact RepC.ppt (F:=F) (g:=⟨λ_=>none,imm,λ_=>False⟩) (w:=w) ds b o b2 o2 (λk=>(w.cell? ⟨b2,o2+k,none⟩).getD undef) hb hv hb2
  (λk d hk=>by obtain⟨x,h1,h2⟩:=key k d hk;rw[h1];rfl) (λk d hk=>by obtain⟨x,h1,h2⟩:=key k d hk;rw[h1];exact h2)
theorem yF(hm:MemOk own g w m)(hle:MLe mm m){k:Nat}{t:Ty}{d:Dat F}{p:Pk (ET F t)}(h:Ao mm k t d=some p){imm:Nat→Prop}(hi:Frz g p.fz imm){v:Value}(hr:RepD P g w d v) :
  PkV w imm k (encT F t p.x) v∧p.os = []∧p.bx = []∧Fzl mm p.fz:=by
 unfold Ao at h;split at h
 ·rename_i id;split at h
  ·rename_i id2 hbox1;split at h
   ·rename_i cs hbox;split at h
    ·rename_i d0 hd0;split at h
     ·rename_i x hx;cases h;obtain⟨b,cn,hid,rfl⟩:=bh hr;obtain⟨b',cn',arr1,e1,k1,k2,k3,k4⟩:=hm.ok id _ (hle _ _ hbox1);rw[k1]at hid;cases hid
      match arr1,k3,k2,k4 with
      | [v1],k3,k2,k4=>
       have hv1:=k4 0 (.ptr id2 0) v1 rfl rfl;obtain⟨b2,cn2,hid2,rfl⟩:=bh (P:=P) (.c hv1);obtain⟨b3,cn3,arr,e,q1,q2,q3,q4⟩:=hm.ok id2 _ (hle _ _ hbox);rw[q1]at hid2;cases hid2
       have hlt:k<arr.length:=by rw[q3];exact(LQ.1 hd0).1
       have hy:=bT (q4 k (.im d0) _ hd0 (LP hlt));have hl:=bG F hx
       refine⟨⟨_,_,arr[k],rfl,hi.fz id (by simp) _ (G.blk_main k1),hi.fz id2 (by simp) _ (G.blk_main q1),by simp[World.cell?,k2],by simp[World.cell?,q2,hlt],?_⟩,rfl,rfl,?_⟩
       ·have hy2:RepI w imm d0 arr[k]:=hy.mono hi.imm (λ_ _=>rfl)
        match he:encT F t x,hl with
        | [d1],hl=>exact .one (hy2.nle (hl.2 0 d0 d1 rfl rfl))
        | [],hl=>simp[Les]at hl
        | _::_::_,hl=>simp[Les]at hl
       ·intro id' hid';simp only[List.mem_cons,List.not_mem_nil,or_false]at hid';rcases hid' with rfl | rfl
        ·exact .inr (.inr ⟨_,hbox1,rfl⟩)
        ·exact .inr (.inr ⟨_,hbox,rfl⟩)
      | [],k3,_,_=>simp at k3
      | _::_::_,k3,_,_=>simp at k3
     ·cases h
    ·cases h
   ·cases h
  ·cases h
 ·cases h
theorem wR(hm:MemOk own g w m)(hle:MLe mm m){t:Ty}{d:Dat F}{p:Pk (ET F t)}(h:ye mm t d=some p){imm:Nat→Prop}(hi:Frz g p.fz imm){v:Value}(hr:RepD P g w d v) :
  RepC (F:=F) ⟨λ_=>none,imm,λ_=>False⟩ w (.ppt (encT F t p.x)) v∧p.os = []∧p.bx = []∧Fzl mm p.fz:=by
 unfold ye at h;split at h
 ·rename_i id;split at h
  ·rename_i id2 hbox1;split at h
   ·rename_i cs hbox;split at h
    ·cases h
    ·rename_i ds fz hds;split at h
     ·cases h
     ·rename_i x hx;cases h;obtain⟨b,cn,hid,rfl⟩:=bh hr;obtain⟨b',cn',arr1,e1,k1,k2,k3,k4⟩:=hm.ok id _ (hle _ _ hbox1);rw[k1]at hid;cases hid
      match arr1,k3,k2,k4 with
      | [v1],k3,k2,k4=>
       have hv1:=k4 0 (.ptr id2 0) v1 rfl rfl;obtain⟨b2,cn2,hid2,rfl⟩:=bh (P:=P) (.c hv1);obtain⟨b3,cn3,arr,e,q1,q2,q3,q4⟩:=hm.ok id2 _ (hle _ _ hbox);rw[q1]at hid2;cases hid2
       refine⟨Fg (o:=0) (o2:=0) (bG F hx) (hi.fz id (by simp) _ (G.blk_main k1)) (by simp[World.cell?,k2]) (hi.fz id2 (by simp) _ (G.blk_main q1)) ?_,rfl,rfl,?_⟩
       ·intro k d hk
        have hlt:k<arr.length:=by rw[q3,← dQ hds];exact(LQ.1 hk).1
        refine⟨arr[k],by simp[World.cell?,q2,hlt],?_⟩
        exact ft hm hle hds (g1:=⟨g.ids,imm,g.len⟩) ⟨λ_ _ h=>h,hi.imm,λ_ _=>rfl,λ_ h=>h,λ_ _=>rfl⟩ (λid' hid' b' hb'=>hi.fz id' (by simp[hid']) b' hb') arr q4 k d _ hk (LP hlt)
       ·intro id' hid';rcases List.mem_cons.1 hid' with rfl | hid'
        ·exact .inr (.inr ⟨_,hbox1,rfl⟩)
        ·rcases List.mem_cons.1 hid' with rfl | hid'
         ·exact .inr (.inl ⟨cs,ds,fz,hbox,hds,λx hx=>by simp[hx]⟩)
         ·exact .inl (mV hds id' hid')
      | [],k3,_,_=>simp at k3
      | _::_::_,k3,_,_=>simp at k3
   ·cases h
  ·rename_i cs hbox1;split at h
   ·cases h
   ·rename_i x hx;cases h;obtain⟨b,cn,hid,rfl⟩:=bh hr;obtain⟨b',cn',arr1,e1,k1,k2,k3,k4⟩:=hm.ok id _ (hle _ _ hbox1);rw[k1]at hid;cases hid
    match arr1,k3,k2,k4 with
    | [v1],k3,k2,k4=>
     have hv1:=k4 0 (.pt cs 0) v1 rfl rfl;obtain⟨b2,o2,f,hb2,rfl,hc,hrr⟩:=uw (P:=P) (.c hv1)
     refine⟨Fg (o:=0) (bG F hx) (hi.fz id (by simp) _ (G.blk_main k1)) (by simp[World.cell?,k2]) (hi.imm b2 hb2) (λk d hk=>⟨_,hc k d hk,(hrr k d hk).mono hi.imm (λ_ _=>rfl)⟩),rfl,rfl,?_⟩
     intro id' hid';rw[LS]at hid';subst hid';exact .inr (.inr ⟨_,hbox1,rfl⟩)
    | [],k3,_,_=>simp at k3
    | _::_::_,k3,_,_=>simp at k3
  ·cases h
 ·cases h
theorem HeldC.lift{w w':World}{imm imm':Nat→Prop}(hi:∀b,imm b→imm' b∧w'.heap[b]? = w.heap[b]?):∀{ds:List (ND F)} {k:Nat} {vs:List Value},HeldC w imm [] k ds vs []→HeldC w' imm' [] k ds vs []
 | [],k,vs,h=>by cases vs<;>simp_all [HeldC]
 | d::ds,k,vs,h=>by
  cases vs with
  | nil=>simp[HeldC]at h
  | cons v vs=>simp only[HeldC,memN,Bool.false_eq_true,if_false]at h ⊢;exact⟨h.1.mono (λb hb=>(hi b hb).1) (λb hb=>(hi b hb).2),h.2.lift hi⟩
theorem HeldV.lift{w w':World}{imm imm':Nat→Prop}(hi:∀b,imm b→imm' b∧w'.heap[b]? = w.heap[b]?){t:Ty}{x:ET F t}{v:Value}(h:HeldV w imm t [] x v []):HeldV w' imm' t [] x v []:=by
 unfold HeldV at h ⊢;split
 ·rename_i hs;rw[if_pos hs]at h;obtain⟨vs,h1,h2⟩:=h;exact⟨vs,h1,h2.lift hi⟩
 ·rename_i hs;rw[if_neg hs]at h;exact h.lift hi
theorem HeldC.nil_pls{imm:Nat→Prop}:∀{ds:List (ND F)} {k:Nat} {vs:List Value} {pls:List Pl},HeldC w imm [] k ds vs pls→pls = []
 | [],k,vs,pls,h=>by cases vs<;>simp_all [HeldC]
 | d::ds,k,vs,pls,h=>by
  cases vs with
  | nil=>simp[HeldC]at h
  | cons v vs=>simp only[HeldC,memN,Bool.false_eq_true,if_false]at h;exact h.2.nil_pls
theorem HeldV.nil_pls{imm:Nat→Prop}{t:Ty}{x:ET F t}{v:Value}{pls:List Pl}(h:HeldV w imm t [] x v pls):pls = []:=by
 unfold HeldV at h;split at h
 ·obtain⟨vs,_,h2⟩:=h;exact h2.nil_pls
 ·exact h.nil_pls
theorem zg{imm:Nat→Prop}:∀{ds:List (ND F)} {k:Nat} {vs:List Value},vs.length=ds.length→(∀(k:Nat)(d:ND F)(x:Value),ds[k]? = some d→vs[k]? = some x→RepI w imm d x)→HeldC w imm [] k ds vs []
 | [],k,vs,hl,_=>by have:vs = []:=List.eq_nil_of_length_eq_zero hl;subst this;rfl
 | d::ds,k,vs,hl,hr=>by
  match vs,hl with
  | v::vs,hl=>
   simp only[HeldC,memN,Bool.false_eq_true,if_false]
   exact⟨hr 0 d v rfl rfl,zg (by simpa using hl) (λk d x a b=>hr (k+1) d x a b)⟩
theorem DS{imm:Nat→Prop}{t:Ty}{x:ET F t}{v:Value}(h:RepT w imm (encT F t x,t.isSt) v):HeldV w imm t [] x v []:=by
 unfold HeldV
 cases hs:t.isSt with
 | true=>
  rw[if_pos rfl];rw[hs]at h;generalize hc:encT F t x=cs at h ⊢
  cases h with
  | agg hl hr=>exact⟨_,rfl,zg hl hr⟩
 | false=>
  rw[if_neg (by simp)]
  rw[hs]at h;generalize hc:encT F t x=cs at h ⊢
  cases h with
  | one h=>
   refine zg rfl ?_;intro k d y h1 h2
   cases k with
   | zero=>simp only[List.getElem?_cons_zero,Option.some.injEq]at h1 h2;subst h1 h2;exact h
   | succ k=>simp at h1
theorem zt{imm:Nat→Prop}:∀{ds:List (ND F)} {k:Nat} {vs:List Value},HeldC w imm [] k ds vs []→vs.length=ds.length∧(∀(k:Nat)(d:ND F)(x:Value),ds[k]? = some d→vs[k]? = some x→RepI w imm d x)
 | [],k,vs,h=>by cases vs<;>simp_all [HeldC]
 | d::ds,k,vs,h=>by
  cases vs with
  | nil=>simp[HeldC]at h
  | cons v vs=>
   simp only[HeldC,memN,Bool.false_eq_true,if_false]at h;obtain⟨h1,h2⟩:=zt h.2
   refine⟨by simp[h1],?_⟩
   intro j d' x a b
   cases j with
   | zero=>simp only[List.getElem?_cons_zero,Option.some.injEq]at a b;subst a b;exact h.1
   | succ j=>exact h2 j d' x a b
theorem uU{imm:Nat→Prop}{t:Ty}{x:ET F t}{v:Value}(h:HeldV w imm t [] x v []):RepT w imm (encT F t x,t.isSt) v:=by
 unfold HeldV at h
 cases hs:t.isSt with
 | true=>rw[hs]at h;obtain⟨vs,rfl,h2⟩:=h;obtain⟨h3,h4⟩:=zt h2;exact .agg h3 h4
 | false=>
  rw[hs]at h;simp only[Bool.false_eq_true,if_false]at h;obtain⟨h3,h4⟩:=zt h
  have hl:∃d,encT F t x = [d]:=by
   cases hc:encT F t x with
   | nil=>rw[hc]at h3;simp at h3
   | cons d r=>rw[hc]at h3;simp at h3;exact⟨d,by rw[h3]⟩
  obtain⟨d,hd⟩:=hl;rw[hd]
  exact .one (h4 0 d v (by rw[hd];rfl) rfl)
theorem r8{t:Ty}(hf:cB F t=true)(x:ET F t):∀d∈encT F t x,d.flat=true:=by
 cases t with
 | int k=>simp[encT,NID.flat]
 | bool=>simp[encT,NID.flat]
 | str=>simp[encT,NID.flat]
 | slice t=>simp[cB]at hf
 | st n=>
  simp only[encT];simp only[cB]at hf
  have gen:∀(ts:List Ty)(a:TupT F ts),(ts.all λt=>match t with | .slice _=>false | .st _=>false | _=>true)=true→∀d∈encF F ts a,d.flat=true:=by
   intro ts
   induction ts with
   | nil=>intro a _ d hd;simp[encF]at hd
   | cons t ts ih=>
    intro a h d hd;simp only[List.all_cons,Bool.and_eq_true]at h;rcases List.mem_cons.1 hd with rfl | hd
    ·cases t<;>first | rfl | simp at h
    ·exact ih a.2 h.2 d hd
  exact gen _ _ hf
theorem RepT.flat{w w':World}{imm imm':Nat→Prop}{cs:List (ND F)}{b:Bool}(hf:∀d∈cs,d.flat=true){v:Value}(h:RepT w imm (cs,b) v):RepT w' imm' (cs,b) v:=by
 cases h with
 | one h=>exact .one (h.flat (hf _ (by simp)))
 | agg hl h=>exact .agg hl (λk c x a b=>(h k c x a b).flat (hf c (List.mem_of_getElem? a)))
end
set_option linter.unusedVariables false
set_option linter.unusedSimpArgs false
section
variable{F:Fam}{P:Program}{own:Ow}{g:G}{w:World}{m mm:Nat→Option (Blk F)}
theorem At(hm:MemOk own g w m)(hle:MLe mm m){k:Kd}{d:Dat F}{p:Pk (k.El F)}(h:packP mm k d=some p){imm:Nat→Prop}(hi:Frz g p.fz imm){v:Value}(hr:RepD P g w d v) :
  (∀(w':World)(imm':Nat→Prop),(∀b,imm b→imm' b∧w'.heap[b]? = w.heap[b]?)→Held P w' imm' k p.x v [] [])∧Fzl mm p.fz:=by
 unfold packP at h;split at h
 ·obtain⟨h1,h2,h3,_⟩:=uV hm hle h hi hr;have h4:=h1.nil_pls;rw[h4]at h1;exact⟨λw' imm' hw=>⟨h1.lift hw,rfl⟩,Fzl.of_rows h3⟩
 ·obtain⟨h1,h2,h3,h4⟩:=yQ hm hle h hi hr;refine⟨λw' imm' hw=>⟨rfl,rfl,?_⟩,h4⟩;exact RepC.le (g:=⟨λ_=>none,imm,λ_=>False⟩) (g':=⟨λ_=>none,imm',λ_=>False⟩) ⟨λ_ _ h=>h,λb hb=>(hw b hb).1,λb hb=>(hw b hb).2,λ_ h=>h,λ_ h=>h.elim⟩ h1
 ·obtain⟨h1,h2,h3,h4⟩:=wR hm hle h hi hr;refine⟨λw' imm' hw=>⟨rfl,rfl,?_⟩,h4⟩;exact RepC.le (g:=⟨λ_=>none,imm,λ_=>False⟩) (g':=⟨λ_=>none,imm',λ_=>False⟩) ⟨λ_ _ h=>h,λb hb=>(hw b hb).1,λb hb=>(hw b hb).2,λ_ h=>h,λ_ h=>h.elim⟩ h1
 ·obtain⟨h1,h2,h3,h4⟩:=yF hm hle h hi hr;exact⟨λw' imm' hw=>⟨rfl,rfl,h1.lift hw⟩,h4⟩
 ·cases h
theorem Fzl.append{l r:List Nat}(h:Fzl mm l)(k:Fzl mm r):Fzl mm (l++r):=by
 intro id hid;rcases List.mem_append.1 hid with hid | hid
 ·rcases h id hid with h | ⟨cs,ds,fz,h1,h2,h3⟩ | h
  ·exact .inl h
  ·exact .inr (.inl ⟨cs,ds,fz,h1,h2,λx hx=>by simp[h3 x hx]⟩)
  ·exact .inr (.inr h)
 ·rcases k id hid with h | ⟨cs,ds,fz,h1,h2,h3⟩ | h
  ·exact .inl h
  ·exact .inr (.inl ⟨cs,ds,fz,h1,h2,λx hx=>by simp[h3 x hx]⟩)
  ·exact .inr (.inr h)
theorem d5{vs:List Value}(h:RepDs (F:=F) P g w [] vs):vs = []:=List.eq_nil_of_length_eq_zero h.1
theorem gO{d:Dat F}{ds:List (Dat F)}{vs:List Value}(h:RepDs P g w (d::ds) vs):∃v vs',vs=v::vs'∧RepD P g w d v∧RepDs P g w ds vs':=by
 match vs,h with
 | [],h=>exact absurd h.1 (by simp)
 | v::vs,h=>exact⟨v,vs,rfl,(aL.1 h).1,(aL.1 h).2⟩
theorem FW{w:World}{imm:Nat→Prop}{d:List (ND F)×Bool}{ds:List (List (ND F)×Bool)}{vs:List Value}(h:RepTs w imm (d::ds) vs):∃v vs',vs=v::vs'∧RepT w imm d v∧RepTs w imm ds vs':=by
 match vs,h with
 | [],h=>exact absurd h.1 (by simp)
 | v::vs,h=>exact⟨v,vs,rfl,h.2 0 d v rfl rfl,by simpa using h.1,λk d x a b=>h.2 (k+1) d x a b⟩
theorem jg(hm:MemOk own g w m)(hle:MLe mm m):∀{kk:List Kd}{fs:List (Dat F)} {ks:List Ty} {cs:List (Dat F)} {q:Pk (TupT F ks→HL F kk)},mkHL mm kk fs ks cs=some q→
  ∀{imm:Nat→Prop},Frz g q.fz imm→∀{vs us:List Value},RepDs P g w fs vs→RepDs P g w cs us→
  (∀(w':World)(imm':Nat→Prop),(∀b,imm b→imm' b∧w'.heap[b]? = w.heap[b]?)→∀(a:TupT F ks)(vs':List Value),RepTs w' imm' (encTs F ks a) vs'→c_ P w' imm' kk (q.x a) (vs++vs'++us) [] [])∧Fzl mm q.fz
 | [],fs,ks,cs,q,h,imm,hi,vs,us,hf,hc=>by
  cases fs with
  | cons d fs=>cases ks<;>cases cs<;>simp[mkHL]at h
  | nil=>
   cases ks with
   | cons t ks=>cases cs<;>simp[mkHL]at h
   | nil=>
    cases cs with
    | cons d cs=>simp[mkHL]at h
    | nil=>
     simp only[mkHL,Option.some.injEq]at h;subst h;have h1:=d5 hf;have h2:=d5 hc;subst h1 h2
     refine⟨λw' imm' hw a vs' ht=>?_,λid hid=>by simp at hid⟩
     have:vs' = []:=List.eq_nil_of_length_eq_zero ht.1;subst this;exact⟨rfl,rfl,rfl⟩
 | k::kk,d::fs,ks,cs,q,h,imm,hi,vs,us,hf,hc=>by
  simp only[mkHL]at h;split at h
  ·cases h
  ·rename_i p hp;split at h
   ·cases h
   ·rename_i q' hq';cases h;obtain⟨v,vs0,rfl,hr,hf'⟩:=gO hf
    obtain⟨h1,h2⟩:=At hm hle hp (hi.sub (λid hid=>by simp[hid])) hr
    obtain⟨h3,h4⟩:=jg hm hle hq' (hi.sub (λid hid=>by simp[hid])) hf' hc
    exact⟨λw' imm' hw a vs' ht=>⟨v,_,[],[],[],[],rfl,rfl,rfl,h1 w' imm' hw,h3 w' imm' hw a vs' ht⟩,h2.append h4⟩
 | k::kk,[],t::ks,cs,q,h,imm,hi,vs,us,hf,hc=>by
  have hk:∃t',k = .v t' []:=by
   cases k with
   | v t' ow=>cases ow with
    | nil=>exact⟨t',rfl⟩
    | cons=>simp[mkHL]at h
   | box=>simp[mkHL]at h
   | rp=>simp[mkHL]at h
   | fn=>simp[mkHL]at h
   | row=>simp[mkHL]at h
   | rpp=>simp[mkHL]at h
   | pk=>simp[mkHL]at h
   | ln=>simp[mkHL]at h
   | nb=>simp[mkHL]at h
  obtain⟨t',rfl⟩:=hk;simp only[mkHL]at h;split at h
  ·rename_i e;subst e;split at h
   ·cases h
   ·rename_i q' hq';cases h;have h1:=d5 hf;subst h1
    obtain⟨h3,h4⟩:=jg (vs:=[]) hm hle hq' hi ⟨rfl,by simp⟩ hc
    refine⟨λw' imm' hw a vs' ht=>?_,h4⟩;obtain⟨v,vs0,rfl,hr,ht'⟩:=FW ht;exact⟨v,_,[],[],[],[],rfl,rfl,rfl,⟨DS hr,rfl⟩,h3 w' imm' hw a.2 vs0 ht'⟩
  ·cases h
 | k::kk,[],[],cs,q,h,imm,hi,vs,us,hf,hc=>by
  cases cs with
  | nil=>simp[mkHL]at h
  | cons d cs=>
   simp only[mkHL]at h;split at h
   ·cases h
   ·rename_i p hp;split at h
    ·cases h
    ·rename_i q' hq';cases h;have h1:=d5 hf;subst h1;obtain⟨v,us0,rfl,hr,hc'⟩:=gO hc
     obtain⟨h1,h2⟩:=At hm hle hp (hi.sub (λid hid=>by simp[hid])) hr
     obtain⟨h3,h4⟩:=jg (vs:=[]) hm hle hq' (hi.sub (λid hid=>by simp[hid])) ⟨rfl,by simp⟩ hc'
     refine⟨λw' imm' hw a vs' ht=>?_,h2.append h4⟩;have h0:vs' = []:=List.eq_nil_of_length_eq_zero ht.1;subst h0;exact⟨v,us0,[],[],[],[],rfl,rfl,rfl,h1 w' imm' hw,h3 w' imm' hw a [] ht⟩
theorem B4{sp:Spec F}{r:Ty}{D:HL F sp.ks→Option (ET F r)}(h:cR sp r=some D){a:HL F sp.ks}{y:ET F r}(hd:D a=some y) :
  ∃r',sp.D a=some r'∧∀(w:World)(imm:Nat→Prop)(rvs:List Value)(bxs:List Pl) (pls:List Pl),bC P w imm (outs sp) r' rvs bxs pls→∃v,rvs = [v]∧bxs = []∧HeldV w imm r [] y v pls:=by
 obtain⟨ks,rs,D0⟩:=sp
 match rs,D0,D,h,hd with
 | [.v t []],D0,D,h,hd=>
  simp only[cR]at h;simp only[outs]
  have key:∀(bl:List Kd)(D0:HL F ks→Option (TL F ([.v t []]++bl))) (D:HL F ks→Option (ET F r)),Bw ks t r bl D0=some D→D a=some y→∃r',D0 a=some r'∧∀(w:World)(imm:Nat→Prop)(rvs:List Value)(bxs:List Pl) (pls:List Pl),bC P w imm ([.v t []]++bl) r' rvs bxs pls→∃v,rvs = [v]∧bxs = []∧HeldV w imm r [] y v pls:=by
   intro bl
   cases bl with
   | nil=>
    intro D0 D h hd;simp only[Bw]at h;split at h
    ·rename_i e;subst e;cases h;refine⟨y,hd,?_⟩;intro w imm rvs bxs pls hh;obtain⟨v,h1,h2,h3,_⟩:=hh;exact⟨v,h1,h2,h3⟩
    ·cases h
   | cons b bl=>intro D0 D h hd;cases h
  exact key _ D0 D h hd
 | [],D0,D,h,hd=>simp[cR]at h
 | .v t (_::_)::_,D0,D,h,hd=>simp[cR]at h
 | .box _ _::_,D0,D,h,hd=>simp[cR]at h
 | .rp _::_,D0,D,h,hd=>simp[cR]at h
 | .fn _ _::_,D0,D,h,hd=>simp[cR]at h
 | .row _ _::_,D0,D,h,hd=>simp[cR]at h
 | .rpp _::_,D0,D,h,hd=>simp[cR]at h
 | .pk _ _::_,D0,D,h,hd=>simp[cR]at h
 | .ln _::_,D0,D,h,hd=>simp[cR]at h
 | .nb _ _::_,D0,D,h,hd=>simp[cR]at h
 | .v t []::_::_,D0,D,h,hd=>simp[cR]at h
end
set_option linter.unusedVariables false
set_option linter.unusedSimpArgs false
section
variable{F:Fam}{P:Program}{own:Ow}{g:G}{w:World}{m mm:Nat→Option (Blk F)}{Γ : Ctx F}
def CtxOk(P:Program)(Γ : Ctx F):Prop:=∀f sp,look Γ f=some sp→FnOk P f sp
theorem FA{f:FuncId}{sp:Spec F}(hf:FnOk P f sp){ks:List Ty}{r:Ty}{D:HL F sp.ks→Option (ET F r)}(hD:cR sp r=some D)(hfl:cB F r=true){q:TupT F ks→HL F sp.ks}{bs us:List Value}(hbs:bs = []∨ks.length=1){imm:Nat→Prop}
  (hq:∀(w':World)(imm':Nat→Prop),(∀b,imm b→imm' b∧w'.heap[b]? = w.heap[b]?)→∀(a:TupT F ks)(vs':List Value),RepTs w' imm' (encTs F ks a) vs'→c_ P w' imm' sp.ks (q a) (bs++vs'++us) [] []) :
  FvOk P F w imm ks r (λa=>D (q a)) (.func (.func f) ⟨bs⟩ ⟨us⟩):=by
 refine⟨f,bs,us,rfl,hbs,hf.1,?_⟩;intro w' imm' hw hlt a x vs' hφ ht;obtain⟨r',hr',hout⟩:=B4 (P:=P) hD hφ
 refine(hf.2 (q a) r' hr' imm' w' (bs++vs'++us) [] [] (hq w' imm' hw a vs' ht) ⟨by simp[plBlks],by simp[plBlks],by simp[plBlks]⟩ hlt).mono ?_
 rintro e w'' ⟨rvs,imm'',pls',rfl,h1,h2,h3,hdr,h4,h5,h6,h7,h8,h9,h10,h11⟩;obtain⟨v,rfl,_,hv⟩:=hout w'' imm'' rvs [] pls' h9;have hn:=hv.nil_pls;subst hn
 exact⟨v,rfl,⟨h1,h2,h3,h4,λb hb=>h5 b hb (by simp[plBlks])⟩,(uU hv).flat (r8 hfl x),hdr⟩
theorem Ey(hΓ : CtxOk P Γ)(hm:MemOk own g w m)(hle:MLe mm m){ks:List Ty}{r:Ty}{d:Dat F}{p:Pk (TupT F ks→Option (ET F r))}(h:C_ Γ mm ks r d=some p){imm:Nat→Prop}(hi:Frz g p.fz imm){v:Value}(hr:RepD P g w d v) :
  FvOk P F w imm ks r p.x v∧p.os = []∧p.bx = []∧Fzl mm p.fz:=by
 unfold C_ at h;split at h
 ·rename_i ks' r' φ;split at h
  ·rename_i e;split at h
   ·rename_i e';subst e e';cases h
    cases hr with
    | fv hr=>exact⟨FvOk.le (g:=g) (g':=⟨g.ids,imm,g.len⟩) ⟨λ_ _ h=>h,hi.imm,λ_ _=>rfl,λ_ h=>h,λ_ _=>rfl⟩ hr,rfl,rfl,λid hid=>by simp at hid⟩
   ·cases h
  ·cases h
 ·rename_i f cs;split at h
  ·rename_i hfl;split at h
   ·cases h
   ·rename_i sp hsp;split at h
    ·rename_i D q hD hq;cases h
     cases hr with
     | clo h1 h2 hf hc=>
      obtain⟨k1,k2⟩:=jg (P:=P) (vs:=[]) hm hle hq hi ⟨rfl,by simp⟩ ⟨h2,hc⟩
      have hv0:=List.eq_nil_of_length_eq_zero h1;subst hv0;exact⟨FA (bs:=[]) (hΓ f sp hsp) hD hfl (.inl rfl) k1,rfl,rfl,k2⟩
    ·cases h
     cases hr with
     | clo h1 h2 hf hc=>
      have hv0:=List.eq_nil_of_length_eq_zero h1;subst hv0
      exact⟨⟨f,[],_,rfl,.inl rfl,(hΓ f sp hsp).1,λ_ _ _ _ _ _ _ h=>nomatch h⟩,rfl,rfl,λid hid=>by simp at hid⟩
  ·cases h
 ·rename_i f d0 fs cs;split at h
  ·rename_i hfl;rw[Bool.and_eq_true]at hfl;split at h
   ·cases h
   ·rename_i sp hsp;split at h
    ·rename_i D q hD hq;cases h
     cases hr with
     | clo h1 h2 hf hc=>obtain⟨k1,k2⟩:=jg (P:=P) hm hle hq hi ⟨h1,hf⟩ ⟨h2,hc⟩;exact⟨FA (hΓ f sp hsp) hD hfl.1 (.inr (Nat.eq_of_beq_eq_true hfl.2)) k1,rfl,rfl,k2⟩
    ·cases h
  ·cases h
 ·rename_i f;split at h
  ·rename_i hfl;split at h
   ·cases h
   ·rename_i sp hsp;split at h
    ·rename_i D q hD hq;cases h;have hv:=IM hr;subst hv
     obtain⟨k1,k2⟩:=jg (P:=P) (vs:=[]) (us:=[]) hm hle hq hi ⟨rfl,by simp⟩ ⟨rfl,by simp⟩
     exact⟨FA (bs:=[]) (hΓ f sp hsp) hD hfl (.inl rfl) k1,rfl,rfl,k2⟩
    ·cases h
  ·cases h
 ·cases h
def G.lf(g:G):G:=⟨g.ids,g.al,g.len⟩
theorem Aj(g:G)(w:World):Le g w g.lf w:=⟨λ_ _ h=>h,λ_ h=>.inl h,λ_ _=>rfl,λ_ h=>h,λ_ _=>rfl⟩
theorem MemOk.lf(hm:MemOk own g w m):MemOk ⟨own.o,λb=>own.i b∨g.len b,own.nm⟩ g.lf w m:=
 ⟨λid B h=>(hm.ok id B h).le (Aj g w) (λ_ _ _=>rfl),hm.dis,λid B b h ho hb=>⟨(hm.own id B b h ho hb).1,λhi=>hi.elim (hm.own id B b h ho hb).2 λhl=>(hm.len b hl).1 (hm.own id B b h ho hb).1⟩,
  λb hb=>hb.elim (hm.imm b) λhl=>(hm.len b hl).2,λb hb=>hb.elim (λh=>(hm.io b h).imp .inl id) λh=>.inl (.inr h),hm.len⟩
theorem Cq{c:Cel F}{v:Value}(h:RepC g w c v):RepC g.lf w (unlnC c) v:=by
 cases c with
 | ln d=>cases h with | ln h=>exact .im h
 | _=>exact h.le (Aj g w)
theorem Df{d:Dat F}{v:Value}(h:RepD P g w d v):RepD P g.lf w (unln d) v:=by
 cases h with
 | c h=>exact .c (Cq h)
 | agg hl h=>
  refine .agg (by rw[List.length_map];exact hl) λk c x a b=>?_
  rw[List.getElem?_map]at a;obtain⟨c0,h0,rfl⟩:=Option.map_eq_some_iff.1 a;exact Cq (h k c0 x h0 b)
 | tup hl h=>exact(RepD.tup hl h).le (Aj g w)
 | clo h1 h2 h3 h4=>exact(RepD.clo h1 h2 h3 h4).le (Aj g w)
 | fv h=>exact(RepD.fv h).le (Aj g w)
theorem B9{ds:List (Dat F)}{vs:List Value}(h:RepDs P g w ds vs):RepDs P g.lf w (ds.map unln) vs:=by
 refine⟨by rw[List.length_map];exact h.1,λk d x a b=>?_⟩
 rw[List.getElem?_map]at a;obtain⟨c0,h0,rfl⟩:=Option.map_eq_some_iff.1 a;exact Df (h.2 k c0 x h0 b)
theorem u4(hΓ : CtxOk P Γ)(hm:MemOk own g w m)(hle:MLe mm m){k:Kd}{d:Dat F}{p:Pk (k.El F)}(h:packK Γ mm k d=some p){imm:Nat→Prop}(hi:Frz g p.fz imm){v:Value}(hr:RepD P g w d v) :
  ∃bxs,Held P w imm k p.x v (p.os.map (plOf g)) bxs∧p.bx.map g.ids=bxs.map some∧Fzl mm p.fz∧(∀id,some id∈p.os→∃B,mm id=some B∧B.owned=true)∧(∀id∈p.bx,some id∈p.os):=by
 cases k with
 | v t ow=>
  obtain⟨h1,h2,h3,h4⟩:=uV hm hle h hi hr
  exact⟨[],⟨h1,rfl⟩,by rw[h2];rfl,Fzl.of_rows h3,h4,by rw[h2];simp⟩
 | box t ow=>
  obtain⟨id,bx,os,h1,h2,h3,h4,h5,h6,h7,h8⟩:=my hm hle h hi hr
  refine⟨[some (pt3 bx)],⟨bx,os.map (plOf g),rfl,?_,h5,h6⟩,by rw[h2];simp[h4],Fzl.of_rows h7,h8,by rw[h2,h1];simp⟩
  rw[h1];simp[plOf,h4]
 | rp t=>
  obtain⟨h1,h2,h3,h4⟩:=yQ hm hle h hi hr
  exact⟨[],⟨by rw[h2];rfl,rfl,h1⟩,by rw[h3];rfl,h4,by rw[h2];simp,by rw[h3];simp⟩
 | fn ks r=>
  obtain⟨h1,h2,h3,h4⟩:=Ey hΓ hm hle h hi hr
  exact⟨[],⟨by rw[h2];rfl,rfl,h1⟩,by rw[h3];rfl,h4,by rw[h2];simp,by rw[h3];simp⟩
 | rpp t=>
  obtain⟨h1,h2,h3,h4⟩:=wR hm hle h hi hr
  exact⟨[],⟨by rw[h2];rfl,rfl,h1⟩,by rw[h3];rfl,h4,by rw[h2];simp,by rw[h3];simp⟩
 | pk k t=>
  obtain⟨h1,h2,h3,h4⟩:=yF hm hle h hi hr
  exact⟨[],⟨by rw[h2];rfl,rfl,h1⟩,by rw[h3];rfl,h4,by rw[h2];simp,by rw[h3];simp⟩
 | ln t=>
  simp only[packK,Hc]at h;split at h
  ·cases h
  ·rename_i p0 hp0;cases h;have hm2:=hm.lf;have hfz:Frz g.lf p0.fz (g.lf.fzs p0.fz).imm:=⟨λ_ h=>.inl h,λid hid b hb=>.inr ⟨id,hid,hb⟩⟩;obtain⟨h1,h2,h3,h4⟩:=uV hm2 hle hp0 hfz (Df hr);have hn:=h1.nil_pls;rw[hn]at h1
   exact⟨[],⟨rfl,rfl,_,(freeze hm2 hle (Fzl.of_rows h3)).imm,h1⟩,rfl,λid hid=>by simp at hid,by simp,by simp⟩
 | nb t ow=>
  simp only[packK,G3]at h;split at h
  ·rename_i p0 hp0;cases h;obtain⟨id,bx,os,h1,h2,h3,h4,h5,h6,h7,h8⟩:=my hm hle hp0 hi hr
   refine⟨[],⟨bx,os.map (plOf g),rfl,?_,h5,h6⟩,rfl,Fzl.of_rows h7,h8,by simp⟩
   dsimp only;rw[h1];simp[plOf,h4]
  ·cases h
 | row t arr=>
  obtain⟨id,pl,h1,h2,h3,h4,h5,h6,h7,l,h8⟩:=wE hm hle h hi.imm hr
  refine⟨[pl],⟨pl,rfl,by rw[h1];simp[plOf,h5],h6,h7⟩,by rw[h2];simp[h5],λid hid=>by rw[h3]at hid;simp at hid,?_,by rw[h2,h1];simp⟩
  intro id' hid';rw[h1]at hid';simp only[LS,Option.some.injEq]at hid';subst hid';exact⟨_,h8,eY⟩
theorem H8{g:G}{w:World}{t:Ty}{l:List (ET F t)}{arr:Bool}{pl:Pl}{c:Nat}{v:Value}(h:bv w g.imm t l pl)(hn:g.ids c=some pl)(hv:RowV arr pl v):RepD (F:=F) P g w (if arr then .c (.ptr c 0)else .c (.wsl c)) v:=by
 cases arr with
 | true=>obtain⟨b,q,rfl,rfl⟩:=hv;exact .c (.ptr hn)
 | false=>
  refine .c ?_;have hv:OwnV pl v:=hv
  cases pl with
  | none=>obtain⟨p,rfl⟩:=hv;exact .wsl0 p hn
  | some q=>obtain⟨b,cap,n⟩:=q;obtain⟨rfl,h2,h3,_⟩:=h;cases hv;exact .wsl hn h2 h3
theorem CT{g:G}{w:World}{t:Ty}{l:List (ET F t)}{arr:Bool}{pl:Pl}{c:Nat}{v:Value}(h:OwnX w g.imm t l pl)(hn:g.ids c=some pl)(hv:RowX t arr pl v):RepD (F:=F) P g w (datOf t arr c) v:=by
 unfold RowX at hv;unfold OwnX at h;unfold datOf
 cases ht:t.isMp with
 | true=>rw[ht,if_pos rfl]at hv;obtain⟨b,rfl,rfl⟩:=hv;exact .c (.mpc hn)
 | false=>
  rw[ht,if_neg (by simp)]at hv h
  exact H8 h hn hv
theorem tP(hΓ : CtxOk P Γ)(hm:MemOk own g w m)(hle:MLe mm m):∀{ks:List Kd}{ds:List (Dat F)} {p:Pk (HL F ks)},ky Γ mm ks ds=some p→∀{imm:Nat→Prop},Frz g p.fz imm→∀{vs:List Value},RepDs P g w ds vs→
  ∃bxs,c_ P w imm ks p.x vs (p.os.map (plOf g)) bxs∧p.bx.map g.ids=bxs.map some∧Fzl mm p.fz∧(∀id,some id∈p.os→∃B,mm id=some B∧B.owned=true)∧(∀id∈p.bx,some id∈p.os)
 | [],ds,p,h,imm,hi,vs,hr=>by
  cases ds with
  | cons d ds=>simp[ky]at h
  | nil=>
   simp only[ky,Option.some.injEq]at h;subst h;have:=d5 hr;subst this
   exact⟨[],⟨rfl,rfl,rfl⟩,rfl,λid hid=>by simp at hid,by simp,by simp⟩
 | k::ks,ds,p,h,imm,hi,vs,hr=>by
  cases ds with
  | nil=>simp[ky]at h
  | cons d ds=>
   simp only[ky]at h;split at h
   ·cases h
   ·rename_i p1 hp1;split at h
    ·cases h
    ·rename_i p2 hp2;cases h;obtain⟨v,vs',rfl,h1,h2⟩:=gO hr
     obtain⟨b1,k1,k2,k3,k4,k5⟩:=u4 hΓ hm hle hp1 (hi.sub (λid hid=>by simp[hid])) h1
     obtain⟨b2,l1,l2,l3,l4,l5⟩:=tP hΓ hm hle hp2 (hi.sub (λid hid=>by simp[hid])) h2
     refine⟨b1++b2,⟨v,vs',p1.os.map (plOf g),p2.os.map (plOf g),b1,b2,rfl,by simp,rfl,k1,l1⟩,by simp[k2,l2],k3.append l3,?_,?_⟩
     ·intro id hid;rcases List.mem_append.1 hid with hid | hid
      ·exact k4 id hid
      ·exact l4 id hid
     ·intro id hid;rcases List.mem_append.1 hid with hid | hid
      ·exact List.mem_append_left _ (k5 id hid)
      ·exact List.mem_append_right _ (l5 id hid)
def NmAt(g:G)(c:Nat)(pls:List Pl):Prop:=∀j pl,pls[j]? = some pl→g.ids (c+j)=some pl
theorem NmAt.left{c:Nat}{p q:List Pl}(h:NmAt g c (p++q)):NmAt g c p:=λj pl hj=>h j pl (by rw[List.getElem?_append_left (LQ.1 hj).1];exact hj)
theorem NmAt.right{c:Nat}{p q:List Pl}(h:NmAt g c (p++q)):NmAt g (c+p.length) q:=λj pl hj=>by
 have:=h (p.length+j) pl (by rw[List.getElem?_append_right (by omega)];simpa using hj)
 rwa [Nat.add_assoc]
def Laid(g:G)(w:World)(c n:Nat)(bs:List (Nat×Blk F)):Prop:=∀p∈bs,∃j,p.1=c+j∧j<n∧p.2.owned=true∧BlkOk g w p.1 p.2
theorem Laid.append{c n1 n2:Nat}{b1 b2:List (Nat×Blk F)}(h1:Laid g w c n1 b1)(h2:Laid g w (c+n1) n2 b2):Laid g w c (n1+n2) (b1++b2):=by
 intro p hp;rcases List.mem_append.1 hp with hp | hp
 ·obtain⟨j,k1,k2,k3⟩:=h1 p hp;exact⟨j,k1,by omega,k3⟩
 ·obtain⟨j,k1,k2,k3⟩:=h2 p hp;exact⟨n1+j,by omega,by omega,k3⟩
theorem Fs{g:G}{w:World}{t:Ty}{l:List (ET F t)}{pl:Pl}{c:Nat}(h:bv w g.imm t l pl)(hn:g.ids c=some pl):BlkOk g w c (.row t l):=by
 cases pl with
 | none=>exact .inl ⟨hn,h⟩
 | some q=>obtain⟨b,cap,n⟩:=q;obtain⟨rfl,h2,h3,cur,e,h4,h5,h6⟩:=h;exact .inr ⟨b,cap,cur,e,hn,h4,h2,h3,h5,h6⟩
theorem Hh{g:G}{w:World}{t:Ty}{l:List (ET F t)}{pl:Pl}{c:Nat}{v:Value}(h:bv w g.imm t l pl)(hn:g.ids c=some pl)(hv:OwnV pl v):RepC (F:=F) g w (.wsl c) v:=by
 cases pl with
 | none=>obtain⟨p,rfl⟩:=hv;exact .wsl0 p hn
 | some q=>obtain⟨b,cap,n⟩:=q;obtain⟨rfl,h2,h3,_⟩:=h;cases hv;exact .wsl hn h2 h3
theorem HM{g:G}{w:World}{t:Ty}{l:List (ET F t)}{pl:Pl}{c:Nat}{v:Value}(h:OwnN w g.imm t l pl)(hn:g.ids c=some pl)(hv:OwnV pl v):RepC (F:=F) g w (.wsl c) v:=by
 cases pl with
 | none=>obtain⟨p,rfl⟩:=hv;exact .wsl0 p hn
 | some q=>
  obtain⟨b,cap,n⟩:=q;obtain⟨h1,h2,h3,_⟩:=h;cases hv
  exact .wsl hn (by rw[h1];exact h2) h3
theorem rr{g:G}{w:World}{t:Ty}{l:List (ET F t)}{pl:Pl}{c:Nat}(h:OwnX w g.imm t l pl)(hn:g.ids c=some pl):BlkOk g w c (blkX t l):=by
 unfold OwnX at h;unfold blkX
 cases ht:t.isMp with
 | true=>rw[ht,if_pos rfl]at h;obtain⟨b,rfl,h⟩:=h;exact⟨b,hn,h⟩
 | false=>
  rw[ht,if_neg (by simp)]at h
  exact Fs h hn
theorem GW{g:G}{w:World}{t:Ty}{l:List (ET F t)}{pl:Pl}{c:Nat}{v:Value}(h:OwnX w g.imm t l pl)(hn:g.ids c=some pl)(hv:OwnVX t pl v):RepC (F:=F) g w (celX F t c) v:=by
 unfold OwnX at h;unfold OwnVX at hv;unfold celX
 cases ht:t.isMp with
 | true=>rw[ht,if_pos rfl]at hv;obtain⟨b,rfl,rfl⟩:=hv;exact .mpc hn
 | false=>
  rw[ht,if_neg (by simp)]at h hv
  exact Hh h hn hv
theorem jN{ow:List Nat}:∀{ds:List (ND F)} {k c:Nat} {vs:List Value} {pls:List Pl},HeldC w g.imm ow k ds vs pls→NmAt g c pls→
  (layC ow k c ds).1.length=vs.length∧(∀(j:Nat)(x:Cel F)(v:Value),(layC ow k c ds).1[j]? = some x→vs[j]? = some v→RepC g w x v)∧Laid g w c pls.length (layC ow k c ds).2.1∧(layC ow k c ds).2.2=c+pls.length∧vs.length=ds.length
 | [],k,c,vs,pls,h,hn=>by
  cases vs with
  | cons v vs=>simp[HeldC]at h
  | nil=>
   simp only[HeldC]at h;subst h
   exact⟨rfl,by simp[layC],λp hp=>by simp[layC]at hp,rfl,rfl⟩
 | d::ds,k,c,vs,pls,h,hn=>by
  cases vs with
  | nil=>simp[HeldC]at h
  | cons v vs=>
   simp only[HeldC]at h;split at h
   ·rename_i hk;split at h
    ·rename_i t l;obtain⟨pl,rest,rfl,h1,h2,h3⟩:=h;have hn0:g.ids c=some pl:=hn 0 pl rfl
     have hn':NmAt g (c+1) rest:=λj q hj=>by
      have:=hn (j+1) q (by simpa using hj)
      rwa [show c+1+j=c+(j+1)by omega]
     obtain⟨k1,k2,k3,k4,k5⟩:=jN (c:=c+1) h3 hn';simp only[layC,hk,if_true]
     refine⟨by simp[k1],?_,?_,by rw[k4,List.length_cons];omega,by simp[k5]⟩
     ·intro j x u hx hu
      cases j with
      | zero=>simp only[List.getElem?_cons_zero,Option.some.injEq]at hx hu;subst hx hu;exact GW h1 hn0 h2
      | succ j=>exact k2 j x u (by simpa using hx) (by simpa using hu)
     ·intro p hp;rcases List.mem_cons.1 hp with rfl | hp
      ·exact⟨0,rfl,by simp,eY,rr h1 hn0⟩
      ·obtain⟨j,q1,q2,q3⟩:=k3 p hp
       exact⟨j+1,by omega,by simp only[List.length_cons];omega,q3⟩
    ·exact h.elim
   ·rename_i hk;split at h
    ·rename_i hk2;split at h
     ·rename_i t l;obtain⟨pl,rest,rfl,h1,h2,h3⟩:=h;have hn0:g.ids c=some pl:=hn 0 pl rfl
      have hn':NmAt g (c+1) rest:=λj q hj=>by
       have:=hn (j+1) q (by simpa using hj)
       rwa [show c+1+j=c+(j+1)by omega]
      obtain⟨k1,k2,k3,k4,k5⟩:=jN (c:=c+1) h3 hn';simp only[layC,hk,hk2,Bool.false_eq_true,if_false,if_true]
      refine⟨by simp[k1],?_,?_,by rw[k4,List.length_cons];omega,by simp[k5]⟩
      ·intro j x u hx hu
       cases j with
       | zero=>simp only[List.getElem?_cons_zero,Option.some.injEq]at hx hu;subst hx hu;exact HM h1 hn0 h2
       | succ j=>exact k2 j x u (by simpa using hx) (by simpa using hu)
      ·intro p hp;rcases List.mem_cons.1 hp with rfl | hp
       ·exact⟨0,rfl,by simp,rfl,⟨pl,hn0,h1⟩⟩
       ·obtain⟨j,q1,q2,q3⟩:=k3 p hp
        exact⟨j+1,by omega,by simp only[List.length_cons];omega,q3⟩
     ·exact h.elim
    ·rename_i hk2;obtain⟨k1,k2,k3,k4,k5⟩:=jN (c:=c) h.2 hn;simp only[layC,hk,hk2,Bool.false_eq_true,if_false]
     refine⟨by simp[k1],?_,k3,k4,by simp[k5]⟩
     intro j x u hx hu
     cases j with
     | zero=>simp only[List.getElem?_cons_zero,Option.some.injEq]at hx hu;subst hx hu;exact .im h.1
     | succ j=>exact k2 j x u (by simpa using hx) (by simpa using hu)
theorem IH{t:Ty}{ow:List Nat}{x:ET F t}{v:Value}{pls:List Pl}{c:Nat}(h:HeldV w g.imm t ow x v pls)(hn:NmAt g c pls) :
  RepD P g w (mkDat t (layC ow 0 c (encT F t x)).1) v∧Laid g w c pls.length (layC ow 0 c (encT F t x)).2.1∧(layC ow 0 c (encT F t x)).2.2=c+pls.length:=by
 unfold HeldV at h;unfold mkDat;split at h
 ·rename_i hs;obtain⟨vs,rfl,h⟩:=h;obtain⟨k1,k2,k3,k4,_⟩:=jN (c:=c) h hn;rw[if_pos hs];exact⟨.agg k1.symm k2,k3,k4⟩
 ·rename_i hs;obtain⟨k1,k2,k3,k4,_⟩:=jN (c:=c) h hn;rw[if_neg hs];refine⟨?_,k3,k4⟩
  cases hc:(layC ow 0 c (encT F t x)).1 with
  | nil=>rw[hc]at k1;simp at k1
  | cons y r=>
   rw[hc]at k1 k2
   cases r with
   | nil=>exact .c (k2 0 y v rfl rfl)
   | cons z r=>exact .c .any
theorem ce{k:Kd}{x:k.El F}{v:Value}{pls:List Pl}{bxs:List Pl}{c:Nat}(h:Held P w g.imm k x v pls bxs)(hn:NmAt g c pls) :
  RepD P g w (unpK k x c).1 v∧Laid g w c pls.length (unpK k x c).2.1∧(unpK k x c).2.2=c+pls.length:=by
 cases k with
 | v t ow=>exact IH h.1 hn
 | box t ow=>
  obtain⟨bx,rest,rfl,rfl,rfl,arr,e,h1,h2⟩:=h;have hn0:g.ids c=some (some (pt3 bx)):=hn 0 _ rfl
  have hn':NmAt g (c+1) rest:=λj q hj=>by
   have:=hn (j+1) q (by simpa using hj)
   rwa [show c+1+j=c+(j+1)by omega]
  obtain⟨k1,k2,k3,k4,k5⟩:=jN (c:=c+1) h2 hn';simp only[unpK]
  refine⟨.c (.ptr hn0),?_,by rw[k4,List.length_cons];omega⟩
  intro p hp;rcases List.mem_cons.1 hp with rfl | hp
  ·exact⟨0,rfl,by simp,rfl,bx.1,bx.2,arr,e,hn0,h1,k1.symm,k2⟩
  ·obtain⟨j,q1,q2,q3⟩:=k3 p hp
   exact⟨j+1,by omega,by simp only[List.length_cons];omega,q3⟩
 | rp t=>
  obtain⟨rfl,rfl,h⟩:=h
  refine⟨.c ?_,λp hp=>by simp[unpK]at hp,rfl⟩
  exact RepC.le (g:=⟨λ_=>none,g.imm,λ_=>False⟩) (g':=g) (w':=w) ⟨λ_ _ h=>(by cases h),λ_ h=>h,λ_ _=>rfl,λ_ h=>h.elim,λ_ h=>h.elim⟩ h
 | rpp t=>
  obtain⟨rfl,rfl,h⟩:=h
  refine⟨.c ?_,λp hp=>by simp[unpK]at hp,rfl⟩
  exact RepC.le (g:=⟨λ_=>none,g.imm,λ_=>False⟩) (g':=g) (w':=w) ⟨λ_ _ h=>(by cases h),λ_ h=>h,λ_ _=>rfl,λ_ h=>h.elim,λ_ h=>h.elim⟩ h
 | fn ks r=>
  obtain⟨rfl,rfl,h⟩:=h
  exact⟨.fv h,λp hp=>by simp[unpK]at hp,rfl⟩
 | ln t=>
  obtain⟨rfl,rfl,h⟩:=h
  exact⟨.c .any,λp hp=>by simp[unpK]at hp,rfl⟩
 | pk k t=>
  obtain⟨rfl,rfl,h⟩:=h
  exact⟨.c .any,λp hp=>by simp[unpK]at hp,rfl⟩
 | nb t ow=>
  obtain⟨bx,rest,rfl,rfl,rfl,arr,e,h1,h2⟩:=h;have hn0:g.ids c=some (some (pt3 bx)):=hn 0 _ rfl
  have hn':NmAt g (c+1) rest:=λj q hj=>by
   have:=hn (j+1) q (by simpa using hj)
   rwa [show c+1+j=c+(j+1)by omega]
  obtain⟨k1,k2,k3,k4,k5⟩:=jN (c:=c+1) h2 hn';simp only[unpK]
  refine⟨.c (.ptr hn0),?_,by rw[k4,List.length_cons];omega⟩
  intro p hp;rcases List.mem_cons.1 hp with rfl | hp
  ·exact⟨0,rfl,by simp,rfl,bx.1,bx.2,arr,e,hn0,h1,k1.symm,k2⟩
  ·obtain⟨j,q1,q2,q3⟩:=k3 p hp
   exact⟨j+1,by omega,by simp only[List.length_cons];omega,q3⟩
 | row t arr=>
  obtain⟨pl,rfl,rfl,h1,h2⟩:=h;have hn0:g.ids c=some pl:=hn 0 _ rfl;simp only[unpK];refine⟨CT h1 hn0 h2,?_,rfl⟩;intro p hp;rw[LS]at hp;subst hp
  exact⟨0,rfl,by simp,eY,rr h1 hn0⟩
theorem ze:∀{ks:List Kd}{a:HL F ks}{vs:List Value}{pls:List Pl} {bxs:List Pl} {c:Nat},c_ P w g.imm ks a vs pls bxs→NmAt g c pls→
  RepDs P g w (unpHL ks a c).1 vs∧Laid g w c pls.length (unpHL ks a c).2.1∧(unpHL ks a c).2.2=c+pls.length∧(aK ks a c).map g.ids=bxs.map some
 | [],a,vs,pls,bxs,c,h,hn=>by
  obtain⟨rfl,rfl,rfl⟩:=h
  exact⟨⟨rfl,by simp[unpHL]⟩,λp hp=>by simp[unpHL]at hp,rfl,rfl⟩
 | k::ks,a,vs,pls,bxs,c,h,hn=>by
  obtain⟨v,vs',p1,p2,b1,b2,rfl,rfl,rfl,h1,h2⟩:=h;obtain⟨k1,k2,k3⟩:=ce (c:=c) h1 hn.left;obtain⟨l1,l2,l3,l4⟩:=ze (c:=c+p1.length) h2 hn.right;simp only[unpHL];rw[k3]
  refine⟨aL.2 ⟨k1,l1⟩,by rw[LR];exact k2.append l2,by rw[l3,LR];omega,?_⟩
  have hb:(aK (k::ks) a c).map g.ids=b1.map some++(aK ks a.2 (c+p1.length)).map g.ids:=by
   cases k with
   | box t ow=>obtain⟨bx,rest,rfl,rfl,_⟩:=h1;have hn0:g.ids c=some (some (pt3 bx)):=hn 0 _ rfl;simp only[aK,k3,List.map_cons,hn0,List.map_nil,List.singleton_append]
   | v t ow=>have:=h1.2;subst this;simp only[aK,k3,List.map_nil,List.nil_append]
   | rp t=>have:=h1.2.1;subst this;simp only[aK,k3,List.map_nil,List.nil_append]
   | fn ks' r=>have:=h1.2.1;subst this;simp only[aK,k3,List.map_nil,List.nil_append]
   | rpp t=>have:=h1.2.1;subst this;simp only[aK,k3,List.map_nil,List.nil_append]
   | pk k t=>have:=h1.2.1;subst this;simp only[aK,k3,List.map_nil,List.nil_append]
   | ln t=>have:=h1.2.1;subst this;simp only[aK,k3,List.map_nil,List.nil_append]
   | nb t ow=>obtain⟨_,_,rfl,_⟩:=h1;simp only[aK,k3,List.map_nil,List.nil_append]
   | row t arr=>obtain⟨pl,rfl,rfl,_⟩:=h1;have hn0:g.ids c=some pl:=hn 0 _ rfl;simp only[aK,k3,List.map_cons,hn0,List.map_nil,List.singleton_append]
  rw[hb,l4,List.map_append]
end
set_option linter.unusedVariables false
set_option linter.unusedSimpArgs false
section
variable{F:Fam}{P:Program}{own:Ow}{g:G}{w:World}{m mm:Nat→Option (Blk F)}{Γ : Ctx F}
theorem bL{b:Nat}:∀{pls:List Pl},b∈plBlks pls↔∃(j:Nat)(b0:Nat)(x:Nat×Nat×NS),pls[j]? = some (some (b0,x))∧b∈b0::nbl x.2.2
 | []=>by simp[plBlks]
 | none::l=>by
  simp only[plBlks,bL];constructor
  ·rintro⟨j,b0,x,h,h'⟩;exact⟨j+1,b0,x,by simpa using h,h'⟩
  ·rintro⟨j,b0,x,h,h'⟩
   cases j with
   | zero=>simp at h
   | succ j=>exact⟨j,b0,x,by simpa using h,h'⟩
 | some (b',y)::l=>by
  simp only[plBlks];rw[← List.cons_append,List.mem_append,bL];constructor
  ·rintro(h | ⟨j,b0,x,h,h'⟩)
   ·exact⟨0,b',y,rfl,h⟩
   ·exact⟨j+1,b0,x,by simpa using h,h'⟩
  ·rintro⟨j,b0,x,h,h'⟩
   cases j with
   | zero=>simp only[List.getElem?_cons_zero,Option.some.injEq,Prod.mk.injEq]at h;obtain⟨rfl,rfl⟩:=h;exact .inl h'
   | succ j=>exact .inr ⟨j,b0,x,by simpa using h,h'⟩
theorem jC{b:Nat}:∀{pls:List Pl},(plBlks pls).Nodup→∀{j j' b0 b0':Nat}{x x':Nat×Nat×NS},pls[j]? = some (some (b0,x))→b∈b0::nbl x.2.2→pls[j']? = some (some (b0',x'))→b∈b0'::nbl x'.2.2→j=j'
 | [],_,j,j',b0,b0',x,x',h,_,h',_=>by simp at h
 | none::l,hn,j,j',b0,b0',x,x',h,hb,h',hb'=>by
  cases j with
  | zero=>simp at h
  | succ j=>
   cases j' with
   | zero=>simp at h'
   | succ j'=>exact congrArg (· + 1) (jC (pls:=l) hn (by simpa using h) hb (by simpa using h') hb')
 | some (b',y)::l,hn,j,j',b0,b0',x,x',h,hb,h',hb'=>by
  simp only[plBlks]at hn;rw[← List.cons_append]at hn;obtain⟨n1,n2,n3⟩:=List.nodup_append.1 hn
  cases j with
  | zero=>
   cases j' with
   | zero=>rfl
   | succ j'=>
    simp only[List.getElem?_cons_zero,Option.some.injEq,Prod.mk.injEq]at h;obtain⟨rfl,rfl⟩:=h
    exact absurd rfl (n3 b hb b (bL.2 ⟨j',b0',x',by simpa using h',hb'⟩))
  | succ j=>
   cases j' with
   | zero=>
    simp only[List.getElem?_cons_zero,Option.some.injEq,Prod.mk.injEq]at h';obtain⟨rfl,rfl⟩:=h'
    exact absurd rfl (n3 b hb' b (bL.2 ⟨j,b0,x,by simpa using h,hb⟩))
   | succ j'=>exact congrArg (· + 1) (jC (pls:=l) n2 (by simpa using h) hb (by simpa using h') hb')
theorem aw:∀{p q:List Pl},plBlks (p++q)=plBlks p++plBlks q
 | [],q=>rfl
 | none::p,q=>by simp only[List.cons_append,plBlks,aw]
 | some (b,x)::p,q=>by simp only[List.cons_append,plBlks,aw,List.append_assoc]
def Back(g:G)(w:World)(c n:Nat)(bx:List Nat)(bs:List (Nat×Blk F)):Prop:=∀p∈bs,p.2.owned=true∧BlkOk g w p.1 p.2∧((∃j,p.1=c+j∧j<n)∨p.1∈bx)
theorem Laid.back{c n:Nat}{bs:List (Nat×Blk F)}(h:Laid g w c n bs):Back g w c n [] bs:=by intro p hp;obtain⟨j,h1,h2,h3,h4⟩:=h p hp;exact⟨h3,h4,.inl ⟨j,h1,h2⟩⟩
theorem Back.append{c n1 n2:Nat}{x1 x2:List Nat}{b1 b2:List (Nat×Blk F)}(h1:Back g w c n1 x1 b1)(h2:Back g w (c+n1) n2 x2 b2):Back g w c (n1+n2) (x1++x2) (b1++b2):=by
 intro p hp;rcases List.mem_append.1 hp with hp | hp
 ·obtain⟨k1,k2,⟨j,k3,k4⟩ | k3⟩:=h1 p hp
  ·exact⟨k1,k2,.inl ⟨j,k3,by omega⟩⟩
  ·exact⟨k1,k2,.inr (by simp[k3])⟩
 ·obtain⟨k1,k2,⟨j,k3,k4⟩ | k3⟩:=h2 p hp
  ·exact⟨k1,k2,.inl ⟨n1+j,by omega,by omega⟩⟩
  ·exact⟨k1,k2,.inr (by simp[k3])⟩
theorem zx{t:Ty}{ow:List Nat}{x:ET F t}{bx:Nat×Nat×Nat}{b c:Nat}{pls:List Pl}(h:HeldB w g.imm t ow x bx.1 pls)(hb:g.ids b=some (some (pt3 bx)))(hn:NmAt g c pls) :
  Back g w c pls.length [b] ((b,.box (layC ow 0 c (encT F t x)).1)::(layC ow 0 c (encT F t x)).2.1)∧(layC ow 0 c (encT F t x)).2.2=c+pls.length:=by
 obtain⟨arr,e,h1,h2⟩:=h;obtain⟨k1,k2,k3,k4,_⟩:=jN (c:=c) h2 hn;refine⟨?_,k4⟩;intro p hp;rcases List.mem_cons.1 hp with rfl | hp
 ·exact⟨rfl,⟨bx.1,bx.2,arr,e,hb,h1,k1.symm,k2⟩,.inr (by simp)⟩
 ·obtain⟨j,q1,q2,q3,q4⟩:=k3 p hp;exact⟨q3,q4,.inl ⟨j,q1,q2⟩⟩
theorem iq{α β : Type}{f:α→β}{l:List α}{y:β}{r:List β}(h:l.map f=y::r):∃x l',l=x::l'∧f x=y∧l'.map f=r:=by
 cases l with
 | nil=>simp at h
 | cons x l'=>simp only[List.map_cons,List.cons.injEq]at h;exact⟨x,l',rfl,h.1,h.2⟩
theorem de:∀{ks:List Kd}{a:TL F ks}{vs:List Value}{bxs:List Pl} {pls:List Pl} {bx:List Nat} {c:Nat},bC P w g.imm ks a vs bxs pls→NmAt g c pls→bx.map g.ids=bxs.map some→
  RepDs P g w (ap ks a bx c).1 vs∧Back g w c pls.length bx (ap ks a bx c).2.1∧(ap ks a bx c).2.2=c+pls.length
 | [],a,vs,bxs,pls,bx,c,h,hn,hb=>by
  obtain⟨rfl,rfl,rfl⟩:=h
  exact⟨⟨rfl,by simp[ap]⟩,λp hp=>by simp[ap]at hp,rfl⟩
 | [.box t ow],a,vs,bxs,pls,bx,c,h,hn,hb=>by
  obtain⟨b,rfl,rfl,h⟩:=h;obtain⟨i,bx',rfl,h1,h2⟩:=iq hb
  have:bx' = []:=by simpa using h2
  subst this;obtain⟨k1,k2⟩:=zx h h1 hn
  exact⟨⟨rfl,by simp[ap]⟩,by simpa[ap]using k1,by simpa[ap]using k2⟩
 | [.row t arr],a,vs,bxs,pls,bx,c,h,hn,hb=>by
  obtain⟨pl,rfl,rfl,h,rfl⟩:=h;obtain⟨i,bx',rfl,h1,h2⟩:=iq hb
  have:bx' = []:=by simpa using h2
  subst this
  refine⟨⟨rfl,by simp[ap]⟩,?_,rfl⟩
  intro p hp;simp only[ap,LS]at hp;subst hp
  exact⟨eY,rr h h1,.inr (by simp)⟩
 | .row t arr::l::ks,a,vs,bxs,pls,bx,c,h,hn,hb=>by
  obtain⟨pl,bxs',rfl,h1,h2⟩:=h;obtain⟨i,bx',rfl,h3,h4⟩:=iq hb;obtain⟨l1,l2,l3⟩:=de (c:=c) h2 hn h4;simp only[ap];refine⟨l1,?_,l3⟩;intro p hp;rcases List.mem_cons.1 hp with rfl | hp
  ·exact⟨eY,rr h1 h3,.inr (by simp)⟩
  ·obtain⟨q1,q2,q3⟩:=l2 p hp
   exact⟨q1,q2,q3.imp id (λh=>by simp[h])⟩
 | [.v t ow],a,vs,bxs,pls,bx,c,h,hn,hb=>by
  obtain⟨v,rfl,rfl,h⟩:=h;obtain⟨k1,k2,k3⟩:=ce (c:=c) h hn
  have:bx = []:=by simpa using hb
  subst this
  exact⟨⟨rfl,λk d x h1 h2=>by cases k with | zero=>simp[ap]at h1 h2;subst h1 h2;exact k1 | succ k=>simp[ap]at h1⟩,by simpa[ap]using k2.back,by simpa[ap]using k3⟩
 | [.rp t],a,vs,bxs,pls,bx,c,h,hn,hb=>by
  obtain⟨v,rfl,rfl,h⟩:=h;obtain⟨k1,k2,k3⟩:=ce (c:=c) h hn
  have:bx = []:=by simpa using hb
  subst this
  exact⟨⟨rfl,λk d x h1 h2=>by cases k with | zero=>simp[ap]at h1 h2;subst h1 h2;exact k1 | succ k=>simp[ap]at h1⟩,by simpa[ap]using k2.back,by simpa[ap]using k3⟩
 | [.rpp t],a,vs,bxs,pls,bx,c,h,hn,hb=>by
  obtain⟨v,rfl,rfl,h⟩:=h;obtain⟨k1,k2,k3⟩:=ce (c:=c) h hn
  have:bx = []:=by simpa using hb
  subst this
  exact⟨⟨rfl,λk d x h1 h2=>by cases k with | zero=>simp[ap]at h1 h2;subst h1 h2;exact k1 | succ k=>simp[ap]at h1⟩,by simpa[ap]using k2.back,by simpa[ap]using k3⟩
 | [.pk k0 t],a,vs,bxs,pls,bx,c,h,hn,hb=>by
  obtain⟨v,rfl,rfl,h⟩:=h;obtain⟨k1,k2,k3⟩:=ce (c:=c) h hn
  have:bx = []:=by simpa using hb
  subst this
  exact⟨⟨rfl,λk d x h1 h2=>by cases k with | zero=>simp[ap]at h1 h2;subst h1 h2;exact k1 | succ k=>simp[ap]at h1⟩,by simpa[ap]using k2.back,by simpa[ap]using k3⟩
 | [.ln t],a,vs,bxs,pls,bx,c,h,hn,hb=>by
  obtain⟨v,rfl,rfl,h⟩:=h;obtain⟨k1,k2,k3⟩:=ce (c:=c) h hn
  have:bx = []:=by simpa using hb
  subst this
  exact⟨⟨rfl,λk d x h1 h2=>by cases k with | zero=>simp[ap]at h1 h2;subst h1 h2;exact k1 | succ k=>simp[ap]at h1⟩,by simpa[ap]using k2.back,by simpa[ap]using k3⟩
 | [.nb t ow],a,vs,bxs,pls,bx,c,h,hn,hb=>by
  obtain⟨v,rfl,rfl,h⟩:=h;obtain⟨k1,k2,k3⟩:=ce (c:=c) h hn
  have:bx = []:=by simpa using hb
  subst this
  exact⟨⟨rfl,λk d x h1 h2=>by cases k with | zero=>simp[ap]at h1 h2;subst h1 h2;exact k1 | succ k=>simp[ap]at h1⟩,by simpa[ap]using k2.back,by simpa[ap]using k3⟩
 | [.fn ks r],a,vs,bxs,pls,bx,c,h,hn,hb=>by
  obtain⟨v,rfl,rfl,h⟩:=h;obtain⟨k1,k2,k3⟩:=ce (c:=c) h hn
  have:bx = []:=by simpa using hb
  subst this
  exact⟨⟨rfl,λk d x h1 h2=>by cases k with | zero=>simp[ap]at h1 h2;subst h1 h2;exact k1 | succ k=>simp[ap]at h1⟩,by simpa[ap]using k2.back,by simpa[ap]using k3⟩
 | .box t ow::l::ks,a,vs,bxs,pls,bx,c,h,hn,hb=>by
  obtain⟨b,bxs',p1,p2,rfl,rfl,h1,h2⟩:=h;obtain⟨i,bx',rfl,h3,h4⟩:=iq hb;obtain⟨k1,k2⟩:=zx h1 h3 hn.left;obtain⟨l1,l2,l3⟩:=de (c:=c+p1.length) h2 hn.right h4;simp only[ap];rw[k2]
  refine⟨l1,?_,by rw[l3,LR];omega⟩
  rw[LR];have:=k1.append l2;simpa using this
 | .v t ow::l::ks,a,vs,bxs,pls,bx,c,h,hn,hb=>by
  obtain⟨v,vs',p1,p2,rfl,rfl,h1,h2⟩:=h;obtain⟨k1,k2,k3⟩:=ce (c:=c) h1 hn.left;obtain⟨l1,l2,l3⟩:=de (c:=c+p1.length) h2 hn.right hb;simp only[ap];rw[k3]
  refine⟨aL.2 ⟨k1,l1⟩,?_,by rw[l3,LR];omega⟩
  rw[LR];simpa using k2.back.append l2
 | .rp t::l::ks,a,vs,bxs,pls,bx,c,h,hn,hb=>by
  obtain⟨v,vs',p1,p2,rfl,rfl,h1,h2⟩:=h;obtain⟨k1,k2,k3⟩:=ce (c:=c) h1 hn.left;obtain⟨l1,l2,l3⟩:=de (c:=c+p1.length) h2 hn.right hb;simp only[ap];rw[k3]
  refine⟨aL.2 ⟨k1,l1⟩,?_,by rw[l3,LR];omega⟩
  rw[LR];simpa using k2.back.append l2
 | .rpp t::l::ks,a,vs,bxs,pls,bx,c,h,hn,hb=>by
  obtain⟨v,vs',p1,p2,rfl,rfl,h1,h2⟩:=h;obtain⟨k1,k2,k3⟩:=ce (c:=c) h1 hn.left;obtain⟨l1,l2,l3⟩:=de (c:=c+p1.length) h2 hn.right hb;simp only[ap];rw[k3]
  refine⟨aL.2 ⟨k1,l1⟩,?_,by rw[l3,LR];omega⟩
  rw[LR];simpa using k2.back.append l2
 | .pk k0 t::l::ks,a,vs,bxs,pls,bx,c,h,hn,hb=>by
  obtain⟨v,vs',p1,p2,rfl,rfl,h1,h2⟩:=h;obtain⟨k1,k2,k3⟩:=ce (c:=c) h1 hn.left;obtain⟨l1,l2,l3⟩:=de (c:=c+p1.length) h2 hn.right hb;simp only[ap];rw[k3]
  refine⟨aL.2 ⟨k1,l1⟩,?_,by rw[l3,LR];omega⟩
  rw[LR];simpa using k2.back.append l2
 | .ln t::l::ks,a,vs,bxs,pls,bx,c,h,hn,hb=>by
  obtain⟨v,vs',p1,p2,rfl,rfl,h1,h2⟩:=h;obtain⟨k1,k2,k3⟩:=ce (c:=c) h1 hn.left;obtain⟨l1,l2,l3⟩:=de (c:=c+p1.length) h2 hn.right hb;simp only[ap];rw[k3]
  refine⟨aL.2 ⟨k1,l1⟩,?_,by rw[l3,LR];omega⟩
  rw[LR];simpa using k2.back.append l2
 | .nb t ow::l::ks,a,vs,bxs,pls,bx,c,h,hn,hb=>by
  obtain⟨v,vs',p1,p2,rfl,rfl,h1,h2⟩:=h;obtain⟨k1,k2,k3⟩:=ce (c:=c) h1 hn.left;obtain⟨l1,l2,l3⟩:=de (c:=c+p1.length) h2 hn.right hb;simp only[ap];rw[k3]
  refine⟨aL.2 ⟨k1,l1⟩,?_,by rw[l3,LR];omega⟩
  rw[LR];simpa using k2.back.append l2
 | .fn ks' r::l::ks,a,vs,bxs,pls,bx,c,h,hn,hb=>by
  obtain⟨v,vs',p1,p2,rfl,rfl,h1,h2⟩:=h;obtain⟨k1,k2,k3⟩:=ce (c:=c) h1 hn.left;obtain⟨l1,l2,l3⟩:=de (c:=c+p1.length) h2 hn.right hb;simp only[ap];rw[k3]
  refine⟨aL.2 ⟨k1,l1⟩,?_,by rw[l3,LR];omega⟩
  rw[LR];simpa using k2.back.append l2
theorem vj{imm imm':Nat→Prop}:∀{ds:List (ND F)} {k:Nat} {vs:List Value} {pls:List Pl},(∀d∈ds,d.flat=true)→HeldC w imm [] k ds vs pls→HeldC w imm' [] k ds vs pls
 | [],k,vs,pls,_,h=>by cases vs<;>simp_all [HeldC]
 | d::ds,k,vs,pls,hf,h=>by
  cases vs with
  | nil=>simp[HeldC]at h
  | cons v vs=>
   simp only[HeldC,memN,Bool.false_eq_true,if_false]at h ⊢
   exact⟨h.1.flat (hf d (by simp)),vj (λd hd=>hf d (by simp[hd])) h.2⟩
theorem zY{t:Ty}(hf:cB F t=true){l:List (ET F t)}:∀d∈cells F t l,d.flat=true:=by intro d hd;simp only[cells,List.mem_flatten,List.mem_map]at hd;obtain⟨_,⟨x,_,rfl⟩,hd⟩:=hd;exact r8 hf x d hd
theorem Cm{imm imm':Nat→Prop}{t:Ty}{l:List (ET F t)}{pl:Pl}(hf:cB F t=true)(hm:t.isMp=false)(h:OwnX w imm t l pl):OwnX w imm' t l pl:=by
 rw[dD hm]at h ⊢
 cases pl with
 | none=>exact h
 | some q=>obtain⟨q1,q2,q3,cur,e,q4,q5,q6⟩:=h;exact⟨q1,q2,q3,cur,e,q4,q5,λk d z a b=>(q6 k d z a b).flat (zY hf d (List.mem_of_getElem? a))⟩
theorem rJ{imm imm':Nat→Prop}{ow:List Nat}:∀{ts:List Ty}{a:TupT F ts}{k:Nat}{vs:List Value} {pls:List Pl},xZ F ow k ts=true→HeldC w imm ow k (encF F ts a) vs pls→HeldC w imm' ow k (encF F ts a) vs pls
 | [],a,k,vs,pls,_,h=>by cases vs<;>simp_all [encF,HeldC]
 | t::ts,a,k,vs,pls,hf,h=>by
  simp only[xZ,Bool.and_eq_true]at hf
  cases vs with
  | nil=>simp[encF,HeldC]at h
  | cons v vs=>
   simp only[encF,HeldC]at h ⊢
   cases t with
   | slice e=>
    simp only[Bool.and_eq_true]at hf;rw[if_pos hf.1.1.1]at h ⊢;simp only[enc1]at h ⊢;obtain⟨pl,rest,k1,k2,k3,k4⟩:=h
    exact⟨pl,rest,k1,Cm hf.1.1.2 (by simpa using hf.1.2) k2,k3,rJ hf.2 k4⟩
   | st n=>simp at hf
   | int kk=>
    simp only[enc1]at h ⊢;split at h
    ·exact h.elim
    ·split at h
     ·exact h.elim
     ·rename_i h1 h2;rw[if_neg h1,if_neg h2];exact⟨h.1.flat rfl,rJ hf.2 h.2⟩
   | bool=>
    simp only[enc1]at h ⊢;split at h
    ·exact h.elim
    ·split at h
     ·exact h.elim
     ·rename_i h1 h2;rw[if_neg h1,if_neg h2];exact⟨h.1.flat rfl,rJ hf.2 h.2⟩
   | str=>
    simp only[enc1]at h ⊢;split at h
    ·exact h.elim
    ·split at h
     ·exact h.elim
     ·rename_i h1 h2;rw[if_neg h1,if_neg h2];exact⟨h.1.flat rfl,rJ hf.2 h.2⟩
theorem Co{imm imm':Nat→Prop}{k:Kd}(hf:k.flatR F=true){x:k.El F}{v:Value}{pls:List Pl}{bxs:List Pl}(h:Held P w imm k x v pls bxs):Held P w imm' k x v pls bxs:=by
 cases k with
 | box=>simp[Kd.flatR]at hf
 | rp=>simp[Kd.flatR]at hf
 | fn=>simp[Kd.flatR]at hf
 | row=>simp[Kd.flatR]at hf
 | rpp=>simp[Kd.flatR]at hf
 | pk=>simp[Kd.flatR]at hf
 | ln=>simp[Kd.flatR]at hf
 | nb=>simp[Kd.flatR]at hf
 | v t ow=>
  obtain⟨h1,h2⟩:=h;refine⟨?_,h2⟩
  cases ow with
  | nil=>
   simp only[Kd.flatR]at hf;unfold HeldV at h1 ⊢;split
   ·rename_i hs;rw[if_pos hs]at h1;obtain⟨vs,k1,k2⟩:=h1;exact⟨vs,k1,vj (r8 hf x) k2⟩
   ·rename_i hs;rw[if_neg hs]at h1;exact vj (r8 hf x) h1
  | cons y ow=>
   cases t with
   | slice t=>
    simp only[Kd.flatR,Bool.and_eq_true]at hf;unfold HeldV at h1 ⊢;simp only[Ty.isSt,Bool.false_eq_true,if_false,encT,HeldC,hf.1.1,if_true]at h1 ⊢;obtain⟨pl,rest,k1,k2,k3,k4⟩:=h1
    exact⟨pl,rest,k1,Cm hf.1.2 (by simpa using hf.2) k2,k3,k4⟩
   | int=>simp[Kd.flatR]at hf
   | bool=>simp[Kd.flatR]at hf
   | str=>simp[Kd.flatR]at hf
   | st n=>simp only[Kd.flatR,Bool.and_eq_true]at hf;unfold HeldV at h1 ⊢;simp only[Ty.isSt,if_true]at h1 ⊢;obtain⟨vs,k1,k2⟩:=h1;exact⟨vs,k1,rJ hf.2 k2⟩
theorem wL{imm imm':Nat→Prop}:∀{ks:List Kd}{a:TL F ks}{vs:List Value}{bxs:List Pl} {pls:List Pl},ks.all (Kd.flatR F)=true→bC P w imm ks a vs bxs pls→bC P w imm' ks a vs bxs pls
 | [],a,vs,bxs,pls,hf,h=>h
 | [.box t ow],a,vs,bxs,pls,hf,h=>by simp[Kd.flatR]at hf
 | [.v t ow],a,vs,bxs,pls,hf,h=>by simp only[List.all_cons,List.all_nil,Bool.and_true]at hf;obtain⟨v,h1,h2,h3⟩:=h;exact⟨v,h1,h2,Co hf h3⟩
 | [.rp t],a,vs,bxs,pls,hf,h=>by simp[Kd.flatR]at hf
 | [.fn t r],a,vs,bxs,pls,hf,h=>by simp[Kd.flatR]at hf
 | [.rpp t],a,vs,bxs,pls,hf,h=>by simp[Kd.flatR]at hf
 | [.pk k0 t],a,vs,bxs,pls,hf,h=>by simp[Kd.flatR]at hf
 | [.ln t],a,vs,bxs,pls,hf,h=>by simp[Kd.flatR]at hf
 | [.nb t ow],a,vs,bxs,pls,hf,h=>by simp[Kd.flatR]at hf
 | [.row t r],a,vs,bxs,pls,hf,h=>by simp[Kd.flatR]at hf
 | .box t ow::l::ks,a,vs,bxs,pls,hf,h=>by simp[Kd.flatR]at hf
 | .v t ow::l::ks,a,vs,bxs,pls,hf,h=>by
  simp only[List.all_cons,Bool.and_eq_true]at hf;obtain⟨v,vs',p1,p2,h1,h2,h3,h4⟩:=h
  exact⟨v,vs',p1,p2,h1,h2,Co hf.1 h3,wL (by simpa using hf.2) h4⟩
 | .rp t::l::ks,a,vs,bxs,pls,hf,h=>by simp[Kd.flatR]at hf
 | .fn t r::l::ks,a,vs,bxs,pls,hf,h=>by simp[Kd.flatR]at hf
 | .rpp t::l::ks,a,vs,bxs,pls,hf,h=>by simp[Kd.flatR]at hf
 | .pk k0 t::l::ks,a,vs,bxs,pls,hf,h=>by simp[Kd.flatR]at hf
 | .ln t::l::ks,a,vs,bxs,pls,hf,h=>by simp[Kd.flatR]at hf
 | .nb t ow::l::ks,a,vs,bxs,pls,hf,h=>by simp[Kd.flatR]at hf
 | .row t r::l::ks,a,vs,bxs,pls,hf,h=>by simp[Kd.flatR]at hf
end
set_option linter.unusedVariables false
set_option linter.unusedSimpArgs false
section
variable{F:Fam}{P:Program}{own:Ow}{g g1:G}{w:World}{m m1 mm:Nat→Option (Blk F)}{Γ : Ctx F}{o:Oper}{a:Act}{c:Nat}
theorem eb:∀{l:List Nat},cA l=true→l.Nodup
 | [],_=>List.nodup_nil
 | x::l,h=>by
  simp only[cA,Bool.and_eq_true,Bool.not_eq_true']at h;refine List.nodup_cons.2 ⟨λhx=>?_,eb h.2⟩;rw[aF.2 hx]at h
  exact absurd h.1 (by simp)
theorem lu:∀{l r:List Nat},disjN l r=true→∀x∈l,x∉r
 | [],r,_,x,hx=>by simp at hx
 | y::l,r,h,x,hx=>by
  simp only[disjN,Bool.and_eq_true,Bool.not_eq_true']at h;rcases List.mem_cons.1 hx with rfl | hx
  ·intro hr;rw[aF.2 hr]at h
   exact absurd h.1 (by simp)
  ·exact lu h.2 x hx
theorem db{id:Nat}:∀{l:List (Option Nat)},id∈somes l↔some id∈l
 | []=>by simp[somes]
 | some x::l=>by simp[somes,db]
 | none::l=>by simp[somes,db]
theorem G.blk_iff{g:G}{id b:Nat}{b0:Nat}{c:Nat×Nat×NS}(h:g.ids id=some (some (b0,c))):g.blk id b↔b∈b0::nbl c.2.2:=by
 constructor
 ·rintro⟨b1,c1,h1,h2⟩;rw[h]at h1;cases h1;exact h2
 ·exactλhb=>⟨b0,c,h,hb⟩
theorem G.blk_not{g:G}{id b:Nat}(h:g.ids id=none):¬ g.blk id b:=by rintro⟨b1,c1,h1,_⟩;rw[h]at h1;cases h1
theorem bk{b:Nat}:∀{os:List (Option Nat)},b∈plBlks (os.map (plOf g))↔∃id,some id∈os∧g.blk id b
 | []=>by simp[plBlks]
 | none::os=>by simp[plBlks,plOf,bk]
 | some i::os=>by
  simp only[List.map_cons,List.mem_cons,Option.some.injEq]
  cases hi:g.ids i with
  | none=>
   simp only[plOf,hi,Option.getD_none,plBlks,bk];constructor
   ·rintro⟨id,h,k⟩;exact⟨id,.inr h,k⟩
   ·rintro⟨id,rfl | h,k⟩
    ·exact(G.blk_not hi k).elim
    ·exact⟨id,h,k⟩
  | some q=>
   cases q with
   | none=>
    simp only[plOf,hi,Option.getD_some,plBlks,bk];constructor
    ·rintro⟨id,h,k⟩;exact⟨id,.inr h,k⟩
    ·rintro⟨id,rfl | h,k⟩
     ·exact(G.blk_nil hi k).elim
     ·exact⟨id,h,k⟩
   | some q=>
    obtain⟨b',x⟩:=q;simp only[plOf,hi,Option.getD_some,plBlks];rw[← List.cons_append,List.mem_append,bk];constructor
    ·rintro(h | ⟨id,h,k⟩)
     ·exact⟨i,.inl rfl,(G.blk_iff hi).2 h⟩
     ·exact⟨id,.inr h,k⟩
    ·rintro⟨id,rfl | h,k⟩
     ·exact .inl ((G.blk_iff hi).1 k)
     ·exact .inr ⟨id,h,k⟩
theorem fw(hm:MemOk own g w m):∀{os:List (Option Nat)},(somes os).Nodup→(∀id,some id∈os→∃B,m id=some B∧B.owned=true)→(plBlks (os.map (plOf g))).Nodup
 | [],_,_=>by simp[plBlks]
 | none::os,h,k=>by
  simp only[List.map_cons,plOf,plBlks]
  exact fw hm h (λid hid=>k id (by simp[hid]))
 | some i::os,h,k=>by
  simp only[somes,List.nodup_cons]at h
  have ih:=fw hm h.2 (λid hid=>k id (by simp[hid]))
  simp only[List.map_cons]
  cases hp:plOf g (some i)with
  | none=>simpa[plBlks]using ih
  | some q=>
   obtain⟨b,x⟩:=q
   have hi:g.ids i=some (some (b,x)):=by
    simp only[plOf]at hp
    cases hg:g.ids i with
    | none=>rw[hg]at hp;cases hp
    | some q=>rw[hg]at hp;simp only[Option.getD_some]at hp;subst hp;rfl
   obtain⟨B,k1,k2⟩:=k i (by simp)
   simp only[plBlks];rw[← List.cons_append,List.nodup_append];refine⟨?_,ih,?_⟩
   ·have hok:=hm.ok i B k1
    cases B with
    | box cs=>obtain⟨b',c',_,_,h1,_⟩:=hok;rw[hi]at h1;cases h1;simp[nbl]
    | row t l=>rcases hok with⟨h1,_⟩ | ⟨b',cap,cur,e,h1,_⟩<;>(rw[hi]at h1;cases h1);simp[nbl]
    | nrow t l=>obtain⟨pl,h1,h2⟩:=hok;rw[hi]at h1;cases h1;exact h2.2.2.2.2.1
    | fro t l=>cases k2
    | fbx cs=>cases k2
    | mp t l=>obtain⟨b',h1,_⟩:=hok;rw[hi]at h1;cases h1;simp[nbl]
    | it ob=>obtain⟨b',h1,_⟩:=hok;rw[hi]at h1;cases h1;simp[nbl]
    | als k n=>cases k2
    | lrow t l i ks=>obtain⟨pl,h1,h2⟩:=hok;rw[hi]at h1;cases h1;exact h2.2.2.2.2.1
    | mrow t l j=>obtain⟨pl,h1,h2⟩:=hok;rw[hi]at h1;cases h1;exact h2.2.2.2.2.1
   ·rintro b1 hb1 b2 hb2 rfl;obtain⟨id,h1,h2⟩:=bk.1 hb2
    obtain⟨B',k3,k4⟩:=k id (by simp[h1])
    have:=hm.dis i id B B' b1 k1 k3 k2 k4 ((G.blk_iff hi).2 hb1) h2;subst this;exact h.1 (db.2 h1)
theorem BlkOk.named{id:Nat}{B:Blk F}(h:BlkOk g w id B):g.ids id≠none:=by
 intro hn
 cases B with
 | box cs=>obtain⟨b,c,_,_,h,_⟩:=h;rw[hn]at h;cases h
 | row t l=>rcases h with⟨h,_⟩ | ⟨_,_,_,_,h,_⟩<;>(rw[hn]at h;cases h)
 | nrow t l=>obtain⟨pl,h,_⟩:=h;rw[hn]at h;cases h
 | fro t l=>rcases h with⟨h,_⟩ | ⟨_,_,_,h,_⟩<;>(rw[hn]at h;cases h)
 | fbx cs=>obtain⟨_,_,h,_⟩:=h;rw[hn]at h;cases h
 | mp t l=>obtain⟨_,h,_⟩:=h;rw[hn]at h;cases h
 | it ob=>obtain⟨_,h,_⟩:=h;rw[hn]at h;cases h
 | als k n=>rcases h with⟨_,_,_,_,h,_⟩ | ⟨h,_⟩<;>(rw[hn]at h;cases h)
 | lrow t l i ks=>obtain⟨pl,h,_⟩:=h;rw[hn]at h;cases h
 | mrow t l j=>obtain⟨pl,h,_⟩:=h;rw[hn]at h;cases h
theorem AZ{x:Nat}:∀{l:List Nat}{m:Nat→Option (Blk F)},x∈l→updM m (nones l) x=none:=by
 intro l
 have key:∀(l:List Nat)(m:Nat→Option (Blk F)),m x=none→updM m (nones l) x=none:=by
  intro l
  induction l with
  | nil=>intro m h;exact h
  | cons y l ih=>
   intro m h;simp only[nones,List.map_cons,updM];refine ih _ ?_
   split<;>first | rfl | exact h
 induction l with
 | nil=>intro m h;simp at h
 | cons y l ih=>
  intro m h;simp only[nones,List.map_cons,updM];rcases List.mem_cons.1 h with rfl | h
  ·exact key l _ (by simp)
  ·exact ih h
theorem xf{x:Nat}{B:Blk F}:∀{bs:List (Nat×Blk F)} {m:Nat→Option (Blk F)},updM m (blks bs) x=some B→(x,B)∈bs∨(x∉bs.map (·.1)∧m x=some B)
 | [],m,h=>.inr ⟨by simp,h⟩
 | (y,C)::bs,m,h=>by
  simp only[blks,List.map_cons,updM]at h;rcases xf (bs:=bs) h with h | ⟨h1,h2⟩
  ·exact .inl (by simp[h])
  ·by_cases hxy:y=x
   ·subst hxy;simp only[aV,if_true,Option.some.injEq]at h2;subst h2
    exact .inl (by simp)
   ·rw[am hxy]at h2;simp only[Bool.false_eq_true,if_false]at h2
    exact .inr ⟨by simp only[List.map_cons,List.mem_cons,not_or];exact⟨λe=>hxy e.symm,h1⟩,h2⟩
def G.back(g:G)(c:Nat)(pls:List Pl)(I:Nat→Prop):G:=⟨λx=>if c≤x∧x<c+pls.length then pls[x - c]? else g.ids x,I,g.len⟩
theorem xU{pls:List Pl}{I:Nat→Prop}:NmAt (g.back c pls I) c pls:=by
 intro j pl hj;have hlt:=(LQ.1 hj).1;simp only[G.back]
 rw[if_pos ⟨by omega,by omega⟩,Nat.add_sub_cancel_left]
 exact hj
theorem cy{pls:List Pl}{I:Nat→Prop}{x:Nat}(h:¬ (c≤x∧x<c+pls.length)):(g.back c pls I).ids x=g.ids x:=by simp only[G.back];rw[if_neg h]
theorem EC{ds:List (Dat F)}{vs:List Value}(h:RepDs P g w ds vs):RepD P g w (tupD ds) (tupV vs):=by
 match ds,vs,h with
 | [d],[v],h=>exact reps1 h
 | [],[],h=>exact .tup rfl (by simp)
 | d::e::ds,v::x::vs,h=>exact .tup h.1 h.2
 | [],v::vs,h=>exact absurd h.1 (by simp)
 | [d],[],h=>exact absurd h.1 (by simp)
 | [d],v::x::vs,h=>exact absurd h.1 (by simp)
 | d::e::ds,[],h=>exact absurd h.1 (by simp)
 | d::e::ds,[v],h=>exact absurd h.1 (by simp)
theorem kt{bx:List Nat}{bxs:List Pl}(h:bx.map g.ids=bxs.map some){id:Nat}(hi:id∈bx):∃q∈bxs,g.ids id=some q:=by
 have:g.ids id∈bxs.map some:=by rw[← h];exact List.mem_map_of_mem hi
 obtain⟨q,h1,h2⟩:=List.mem_map.1 this;exact⟨q,h1,h2.symm⟩
theorem vn{b b0:Nat}{q:Nat×Nat×NS}{pls:List Pl}(h:some (b0,q)∈pls)(hb:b∈b0::nbl q.2.2):b∈plBlks pls:=by obtain⟨j,hj⟩:=List.getElem?_of_mem h;exact bL.2 ⟨j,b0,q,hj,hb⟩
theorem u6(hm:MemOk own g w m)(hm1:MemOk own g1 w m1)(h1i:g1.ids=g.ids)(h1l:g1.len=g.len)(hall:∀b,w.heap.size≤b→own.o b)
  {os:List (Option Nat)} {bx:List Nat} {bxs:List Pl} {pls':List Pl} {bs:List (Nat×Blk F)} {imm0 imm' I:Nat→Prop} {w':World} {vs0:List Pl} (hvs0:vs0=os.map (plOf g))
  (hfr:∀k,k<pls'.length→g.ids (c+k)=none)
  (hos:∀id,some id∈os→∃B,m id=some B∧m1 id=some B∧B.owned=true) (hbx:∀id∈bx,some id∈os) (hbxs:bx.map g.ids=bxs.map some)
  (hp:PlOk w imm0 (plBlks vs0)) (h0:∀b,g1.imm b→imm0 b)
  (hsz:w.heap.size≤w'.heap.size) (hfrm:∀b,b<w.heap.size→b∉plBlks vs0→w'.heap[b]? = w.heap[b]?)
  (i1:∀b,g1.imm b→I b) (i2:∀b,I b→imm' b) (i3:∀b,I b→g1.imm b∨b∈plBlks vs0∨w.heap.size≤b) (i4:∀b,imm' b→b<w'.heap.size)
  (hp':PlOk w' imm' (plBlks bxs++plBlks pls')) (hin:∀b∈plBlks bxs++plBlks pls',b∈plBlks vs0∨w.heap.size≤b)
  (hbs:Back (g.back c pls' I) w' c pls'.length bx bs):MemOk own (g.back c pls' I) w' (updM m1 (nones (somes os)++blks bs)):=by
 subst hvs0
 have hno:∀{b:Nat},b∈plBlks (os.map (plOf g))→∃id B,some id∈os∧g.blk id b∧m id=some B∧m1 id=some B∧B.owned=true:=by intro b hb;obtain⟨id,h1,h2⟩:=bk.1 hb;obtain⟨B,k1,k2,k3⟩:=hos id h1;exact⟨id,B,h1,h2,k1,k2,k3⟩
 have hkeys:∀id,id∈bs.map (·.1)→(c≤id∧id<c+pls'.length)∨id∈bx:=by
  intro id hid;obtain⟨p,hp,rfl⟩:=List.mem_map.1 hid;obtain⟨_,_,⟨j,k1,k2⟩ | k⟩:=hbs p hp
  ·exact .inl ⟨by omega,by omega⟩
  ·exact .inr k
 have hout:∀{id:Nat},g.ids id≠none→¬ (c≤id∧id<c+pls'.length):=by
  intro id h hc
  exact h (by have:=hfr (id - c) (by omega);rwa [Nat.add_sub_cancel' hc.1]at this)
 have hsame:∀id,¬ (id∈somes os∨(c≤id∧id<c+pls'.length))→∀B,updM m1 (nones (somes os)++blks bs) id=some B→m1 id=some B:=by
  intro id hid B hB;rw[cx]at hB
  ·exact hB
  ·intro hk;simp only[List.map_append,List.mem_append]at hk;rcases hk with hk | hk
   ·simp only[nones,List.map_map,List.mem_map,Function.comp]at hk;obtain⟨x,h1,h2⟩:=hk;subst h2;exact hid (.inl h1)
   ·have:id∈bs.map (·.1):=by simpa[blks,Function.comp_def]using hk
    rcases hkeys id this with h | h
    ·exact hid (.inr h)
    ·exact hid (.inl (db.2 (hbx id h)))
 have hnotin:∀{id:Nat}{B:Blk F}{b:Nat},id∉somes os→m1 id=some B→B.owned=true→g.blk id b→b∉plBlks (os.map (plOf g))∧b<w.heap.size:=by
  intro id B b hid hB ho hb
  have hb1:g1.blk id b:=by obtain⟨b0,q,hq,hbb⟩:=hb;exact⟨b0,q,by rw[h1i];exact hq,hbb⟩
  refine⟨λhin=>?_,(hm1.ok id B hB).place hm1.imm (Blk.noAls ho) hb1⟩;obtain⟨id',B',k1,k2,k3,k4,k5⟩:=hno hin
  have hb2:g1.blk id' b:=by obtain⟨b0,q,hq,hbb⟩:=k2;exact⟨b0,q,by rw[h1i];exact hq,hbb⟩
  have:=hm1.dis id id' B B' b hB k4 ho k5 hb1 hb2;subst this;exact hid (db.2 k1)
 have hblk:∀{id b:Nat},¬ (c≤id∧id<c+pls'.length)→(g.back c pls' I).blk id b→g.blk id b:=by rintro id b h ⟨b0,q,hq,hbb⟩;rw[cy h]at hq;exact⟨b0,q,hq,hbb⟩
 refine hm1.chg (S:=λid=>id∈somes os∨(c≤id∧id<c+pls'.length)) ⟨?_,i1,?_,λb hb=>(show g.len b by rw[← h1l];exact hb),λb hb=>hfrm b (hm1.len b hb).2 (λhin=>by obtain⟨id,B,_,q2,q3,_,q5⟩:=hno hin;exact(hm1.len b hb).1 (hm.own id B b q3 q5 q2).1)⟩ hsame ?_ ?_ ?_ (λb hb=>i4 b (i2 b hb)) ?_ (λb hb=>⟨(hm.len b hb).1,Nat.lt_of_lt_of_le (hm.len b hb).2 hsz⟩)
 ·intro id r hr;rw[h1i]at hr
  rw[cy (hout (by rw[hr];simp))]
  exact hr
 ·intro b hb;exact hfrm b (hm1.imm b hb) (λhin=>hp.imm b hin (h0 b hb))
 ·intro id hid;rw[cy (λh=>hid (.inr h)),h1i]
 ·intro id B b hid hB ho hb
  have hb':g.blk id b:=by obtain⟨b0,q,hq,hbb⟩:=hb;exact⟨b0,q,by rw[← h1i];exact hq,hbb⟩
  obtain⟨k1,k2⟩:=hnotin (λh=>hid (.inl h)) hB ho hb';refine⟨hfrm b k2 k1,λhI=>?_⟩;rcases i3 b hI with h | h | h
  ·exact(hm1.own id B b hB ho hb).2 h
  ·exact k1 h
  ·omega
 ·intro id B hid hB
  have hmem:(id,B)∈bs:=by
   rw[dw]at hB;rcases xf hB with h | ⟨h1,h2⟩
   ·exact h
   ·exfalso;by_cases hio:id∈somes os
    ·rw[AZ hio]at h2;cases h2
    ·rcases hid with h | h
     ·exact hio h
     ·rw[cx]at h2
      ·refine(hm1.ok id B h2).named ?_;rw[h1i]
       have:=hfr (id - c) (by omega)
       rwa [Nat.add_sub_cancel' h.1]at this
      ·simpa[nones,Function.comp_def]using hio
  obtain⟨ho,hok,hwh⟩:=hbs _ hmem;refine⟨hok,λb _ hb=>?_⟩
  have loc:∀{x:Nat},((c≤x∧x<c+pls'.length)∨x∈bx)→(g.back c pls' I).blk x b→((c≤x∧x<c+pls'.length)∧∃b0 q,pls'[x - c]? = some (some (b0,q))∧b∈b0::nbl q.2.2)∨(x∈bx∧g.blk x b∧b∈plBlks bxs):=by
   intro x hx hxb;by_cases hr:c≤x∧x<c+pls'.length
   ·obtain⟨b0,q,hq,hbb⟩:=hxb;simp only[G.back]at hq;rw[if_pos hr]at hq;exact .inl ⟨hr,b0,q,hq,hbb⟩
   ·have hxx:=hx.resolve_left hr;have hb':=hblk hr hxb;obtain⟨q,hq1,hq2⟩:=kt hbxs hxx;obtain⟨b0,q',hq',hbb⟩:=hb';rw[hq2]at hq';cases hq';exact .inr ⟨hxx,⟨b0,_,hq2,hbb⟩,vn hq1 hbb⟩
  have hwh':(c≤id∧id<c+pls'.length)∨id∈bx:=by
   rcases hwh with⟨j,k1,k2⟩ | k
   ·exact .inl ⟨by simp only at k1;omega,by simp only at k1;omega⟩
   ·exact .inr k
  have hL:b∈plBlks bxs++plBlks pls':=by
   rcases loc hwh' hb with⟨_,b0,q,hq,hbb⟩ | ⟨_,_,h⟩
   ·exact List.mem_append_right _ (bL.2 ⟨_,b0,q,hq,hbb⟩)
   ·exact List.mem_append_left _ h
  refine⟨?_,λhI=>hp'.imm b hL (i2 b hI),?_⟩
  ·rcases hin b hL with h | h
   ·obtain⟨id',B',k1,k2,k3,k4,k5⟩:=hno h;exact(hm.own id' B' b k3 k5 k2).1
   ·exact hall b h
  ·intro id' B' hB' ho' hb';by_cases hs:id'∈somes os∨(c≤id'∧id'<c+pls'.length)
   ·have hmem':(c≤id'∧id'<c+pls'.length)∨id'∈bx:=by
     rw[dw]at hB';rcases xf hB' with h | ⟨h1,h2⟩
     ·exact hkeys id' (List.mem_map.2 ⟨_,h,rfl⟩)
     ·by_cases hio:id'∈somes os
      ·rw[AZ hio]at h2;cases h2
      ·exact .inl (hs.resolve_left hio)
    have hnd:=List.nodup_append.1 hp'.nodup;rcases loc hwh' hb with⟨r1,c1,q1,e1,d1⟩ | ⟨r1,e1,f1⟩
    ·rcases loc hmem' hb' with⟨r2,c2,q2,e2,d2⟩ | ⟨r2,e2,f2⟩
     ·have:=jC hnd.2.1 e1 d1 e2 d2;omega
     ·exact absurd rfl (hnd.2.2 b f2 b (bL.2 ⟨_,c1,q1,e1,d1⟩))
    ·rcases loc hmem' hb' with⟨r2,c2,q2,e2,d2⟩ | ⟨r2,e2,f2⟩
     ·exact absurd rfl (hnd.2.2 b f1 b (bL.2 ⟨_,c2,q2,e2,d2⟩))
     ·obtain⟨B1,k1,_,k2⟩:=hos id (hbx id r1);obtain⟨B2,l1,_,l2⟩:=hos id' (hbx id' r2);exact(hm.dis id id' B1 B2 b k1 l1 k2 l2 e1 e2).symm
   ·exfalso;have hB0:=hsame id' hs B' hB';obtain⟨k1,k2⟩:=hnotin (λh=>hs (.inl h)) hB0 ho' (hblk (λh=>hs (.inr h)) hb');rcases hin b hL with h | h
    ·exact k1 h
    ·omega
 ·intro b hI;rcases i3 b hI with h | h | h
  ·exact hm1.io b h
  ·obtain⟨id',B',k1,k2,k3,k4,k5⟩:=hno h;exact .inr (hm.own id' B' b k3 k5 k2).1
  ·exact .inr (hall b h)
def G.at0(c:Nat)(pls:List Pl)(I:Nat→Prop):G:=⟨λx=>if c≤x then pls[x - c]? else none,I,λ_=>False⟩
theorem AC{pls:List Pl}{I:Nat→Prop}:NmAt (G.at0 c pls I) c pls:=by
 intro j pl hj;simp only[G.at0]
 rw[if_pos (by omega),Nat.add_sub_cancel_left]
 exact hj
theorem Dm{I:Nat→Prop}{ow:List Nat}{ds:List (ND F)}{k c:Nat}{vs:List Value}{pls:List Pl}(h:HeldC w I ow k ds vs pls):(layC ow k c ds).2.2=c+pls.length:=
 (jN (g:=G.at0 c pls I) h AC).2.2.2.1
theorem cu{I:Nat→Prop}{k:Kd}{x:k.El F}{v:Value}{pls:List Pl}{bxs:List Pl}(h:Held P w I k x v pls bxs):(unpK k x c).2.2=c+pls.length:=
 (ce (g:=G.at0 c pls I) h AC).2.2
theorem cz{I:Nat→Prop}:∀{ks:List Kd}{a:TL F ks}{vs:List Value}{bxs:List Pl} {pls:List Pl} {bx:List Nat} {c:Nat},bC P w I ks a vs bxs pls→bx.length=bxs.length→(ap ks a bx c).2.2=c+pls.length
 | [],a,vs,bxs,pls,bx,c,h,hb=>by obtain⟨rfl,rfl,rfl⟩:=h;rfl
 | [.box t ow],a,vs,bxs,pls,bx,c,h,hb=>by
  obtain⟨b,rfl,rfl,arr,e,h1,h2⟩:=h
  match bx,hb with
  | i::bx,hb=>simp only[ap];exact Dm h2
 | [.row t arr],a,vs,bxs,pls,bx,c,h,hb=>by
  obtain⟨pl,rfl,rfl,_,rfl⟩:=h
  match bx,hb with
  | i::bx,hb=>rfl
 | .row t arr::l::ks,a,vs,bxs,pls,bx,c,h,hb=>by
  obtain⟨pl,bxs',rfl,_,h2⟩:=h
  match bx,hb with
  | i::bx,hb=>
   simp only[ap]
   rw[cz h2 (by simpa using hb)]
 | [.v t ow],a,vs,bxs,pls,bx,c,h,hb=>by obtain⟨v,rfl,rfl,h⟩:=h;simp only[ap];exact cu h
 | [.rp t],a,vs,bxs,pls,bx,c,h,hb=>by obtain⟨v,rfl,rfl,h⟩:=h;simp only[ap];exact cu h
 | [.rpp t],a,vs,bxs,pls,bx,c,h,hb=>by obtain⟨v,rfl,rfl,h⟩:=h;simp only[ap];exact cu h
 | [.pk k0 t],a,vs,bxs,pls,bx,c,h,hb=>by obtain⟨v,rfl,rfl,h⟩:=h;simp only[ap];exact cu h
 | [.ln t],a,vs,bxs,pls,bx,c,h,hb=>by obtain⟨v,rfl,rfl,h⟩:=h;simp only[ap];exact cu h
 | [.nb t ow],a,vs,bxs,pls,bx,c,h,hb=>by obtain⟨v,rfl,rfl,h⟩:=h;simp only[ap];exact cu h
 | [.fn ks r],a,vs,bxs,pls,bx,c,h,hb=>by obtain⟨v,rfl,rfl,h⟩:=h;simp only[ap];exact cu h
 | .box t ow::l::ks,a,vs,bxs,pls,bx,c,h,hb=>by
  obtain⟨b,bxs',p1,p2,rfl,rfl,⟨arr,e,h0,h1⟩,h2⟩:=h
  match bx,hb with
  | i::bx,hb=>
   simp only[ap]
   rw[Dm h1,cz h2 (by simpa using hb),LR];omega
 | .v t ow::l::ks,a,vs,bxs,pls,bx,c,h,hb=>by obtain⟨v,vs',p1,p2,rfl,rfl,h1,h2⟩:=h;simp only[ap];rw[cu h1,cz h2 hb,LR];omega
 | .rp t::l::ks,a,vs,bxs,pls,bx,c,h,hb=>by obtain⟨v,vs',p1,p2,rfl,rfl,h1,h2⟩:=h;simp only[ap];rw[cu h1,cz h2 hb,LR];omega
 | .rpp t::l::ks,a,vs,bxs,pls,bx,c,h,hb=>by obtain⟨v,vs',p1,p2,rfl,rfl,h1,h2⟩:=h;simp only[ap];rw[cu h1,cz h2 hb,LR];omega
 | .pk k0 t::l::ks,a,vs,bxs,pls,bx,c,h,hb=>by obtain⟨v,vs',p1,p2,rfl,rfl,h1,h2⟩:=h;simp only[ap];rw[cu h1,cz h2 hb,LR];omega
 | .ln t::l::ks,a,vs,bxs,pls,bx,c,h,hb=>by obtain⟨v,vs',p1,p2,rfl,rfl,h1,h2⟩:=h;simp only[ap];rw[cu h1,cz h2 hb,LR];omega
 | .nb t ow::l::ks,a,vs,bxs,pls,bx,c,h,hb=>by obtain⟨v,vs',p1,p2,rfl,rfl,h1,h2⟩:=h;simp only[ap];rw[cu h1,cz h2 hb,LR];omega
 | .fn ks' r::l::ks,a,vs,bxs,pls,bx,c,h,hb=>by obtain⟨v,vs',p1,p2,rfl,rfl,h1,h2⟩:=h;simp only[ap];rw[cu h1,cz h2 hb,LR];omega
theorem BZ(hm:MemOk own g w m)(hm1:MemOk own g1 w m1)(h1i:g1.ids=g.ids)(h1l:g1.len=g.len)(hgi:∀b,g.imm b→g1.imm b)(hall:∀b,w.heap.size≤b→own.o b){u:Nat→Bool}(hd:∀id,u id=false→g.ids id=none)
  {os:List (Option Nat)} {bx:List Nat} {bxs:List Pl} {pls':List Pl} {imm0 imm' I:Nat→Prop} {w':World} {rvs:List Value} {ks:List Kd} {r:TL F ks}
  (hfr:∀k,k<(ap ks r bx c).2.2 - c→u (c+k)=false)
  (hos:∀id,some id∈os→∃B,m id=some B∧m1 id=some B∧B.owned=true) (hbx:∀id∈bx,some id∈os) (hbxs:bx.map g.ids=bxs.map some)
  (hp:PlOk w imm0 (plBlks (os.map (plOf g)))) (h0:∀b,g1.imm b→imm0 b)
  (e1:w'.os=w.os) (e2:w'.tape=w.tape) (e3:w'.output=w.output) (e4:w.drawn≤w'.drawn)
  (hsz:w.heap.size≤w'.heap.size) (hfrm:∀b,b<w.heap.size→b∉plBlks (os.map (plOf g))→w'.heap[b]? = w.heap[b]?)
  (i1:∀b,g1.imm b→I b) (i2:∀b,I b→imm' b) (i3:∀b,I b→g1.imm b∨b∈plBlks (os.map (plOf g))∨w.heap.size≤b) (i4:∀b,imm' b→b<w'.heap.size)
  (hp':PlOk w' imm' (plBlks bxs++plBlks pls')) (hin:∀b∈plBlks bxs++plBlks pls',b∈plBlks (os.map (plOf g))∨w.heap.size≤b)
  (hout:bC P w' I ks r rvs bxs pls') :
  ∃g',RepD P g' w' (tupD (ap ks r bx c).1) (tupV rvs)∧MemOk own g' w' (updM m1 (nones (somes os)++blks (ap ks r bx c).2.1))∧Stp m g w g' w'∧∀id,u id=false→(id<c∨c+((ap ks r bx c).2.2 - c)≤id)→g'.ids id=none:=by
 have hlen:bx.length=bxs.length:=by simpa using congrArg List.length hbxs
 have hcnt:=cz (c:=c) hout hlen
 have hfr':∀k,k<pls'.length→g.ids (c+k)=none:=λk hk=>hd _ (hfr k (by rw[hcnt];omega))
 have hnot:∀{id:Nat},g.ids id≠none→¬ (c≤id∧id<c+pls'.length):=by
  intro id h hc
  exact h (by have:=hfr' (id - c) (by omega);rwa [Nat.add_sub_cancel' hc.1]at this)
 have hbxs':bx.map (g.back c pls' I).ids=bxs.map some:=by
  rw[← hbxs];refine List.map_congr_left λid hid=>?_;obtain⟨q,_,hq⟩:=kt hbxs hid
  exact cy (hnot (by rw[hq];simp))
 obtain⟨k1,k2,k3⟩:=de (g:=g.back c pls' I) (c:=c) (bx:=bx) hout xU hbxs'
 refine⟨g.back c pls' I,EC k1,u6 hm hm1 h1i h1l hall rfl hfr' hos hbx hbxs hp h0 hsz hfrm i1 i2 i3 i4 hp' hin k2,⟨⟨?_,λb hb=>i1 b (hgi b hb),?_,λ_ h=>h,λb hb=>hfrm b (hm.len b hb).2 (λhin=>by obtain⟨id,h1,h2⟩:=bk.1 hin;obtain⟨B,l1,_,l2⟩:=hos id h1;exact(hm.len b hb).1 (hm.own id B b l1 l2 h2).1)⟩,e1,e2,e3,hsz,?_,e4⟩,?_⟩
 ·intro id q hq
  rw[cy (hnot (by rw[hq];simp))]
  exact hq
 ·intro b hb;exact hfrm b (hm.imm b hb) (λhin=>hp.imm b hin (h0 b (hgi b hb)))
 ·intro b hb hno;refine hfrm b hb (λhin=>?_);obtain⟨id,h1,h2⟩:=bk.1 hin;obtain⟨B,l1,_,l2⟩:=hos id h1;exact hno id B l1 l2 h2
 ·intro id hu hw
  rw[cy (by rw[hcnt]at hw;omega)]
  exact hd id hu
theorem Fv(hΓ : CtxOk P Γ)(hm:MemOk own g w m)(hle:MLe mm m){u:Nat→Bool}(hd:∀id,u id=false→g.ids id=none)(hall:∀b,w.heap.size≤b→own.o b)
  {f:FuncId} {args:List (Dat F)} {vs:List Value} (hr:RepDs P g w args vs) {sp:Spec F} (hsp:look Γ f=some sp) {p:Pk (HL F sp.ks)} (hp:ky Γ mm sp.ks (cond ((outs sp).all (Kd.flatR F)) (args.map unln) args)=some p)
  (hnd:cA (somes p.os)=true) (hdj:disjN (somes p.os) p.fz=true) {r:TL F (outs sp)} (hD:sp.D p.x=some r)
  (hfr:∀k,k<(ap (outs sp) r p.bx c).2.2 - c→u (c+k)=false) (hrun:(execOp a.eval o).run P w = .ok (.enter f ⟨vs⟩) w) :
  Outc P own m u g w o a c { val:=tupD (ap (outs sp) r p.bx c).1,mw:=(if(outs sp).all (Kd.flatR F)then[]else frz mm p.fz)++nones (somes p.os)++blks (ap (outs sp) r p.bx c).2.1,nu:=(ap (outs sp) r p.bx c).2.2 - c }:=by
 have pre:∀{own2:Ow}{g2:G}(hm2:MemOk own2 g2 w m)(hids:g2.ids=g.ids),RepDs P g2 w (cond ((outs sp).all (Kd.flatR F)) (args.map unln) args) vs→∃bxs,c_ P w (g2.fzs p.fz).imm sp.ks p.x vs (p.os.map (plOf g)) bxs∧p.bx.map g.ids=bxs.map some∧(∀id∈p.bx,some id∈p.os)∧
   (∀id,some id∈p.os→∃B,m id=some B∧B.owned=true)∧MemOk own2 (g2.fzs p.fz) w (updM m (frz mm p.fz))∧(∀id,some id∈p.os→∃B,m id=some B∧updM m (frz mm p.fz) id=some B∧B.owned=true)∧PlOk w (g2.fzs p.fz).imm (plBlks (p.os.map (plOf g))):=by
  intro own2 g2 hm2 hids hr2;have hfz:Frz g2 p.fz (g2.fzs p.fz).imm:=⟨λ_ h=>.inl h,λid hid b hb=>.inr ⟨id,hid,hb⟩⟩;obtain⟨bxs,k1,k2,k3,k4,k5⟩:=tP hΓ hm2 hle hp hfz hr2
  have hown:∀id,some id∈p.os→∃B,m id=some B∧B.owned=true:=λid hid=>by obtain⟨B,h1,h2⟩:=k4 id hid;exact⟨B,hle _ _ h1,h2⟩
  have hfr1:=freeze hm2 hle k3
  have hown1:∀id,some id∈p.os→∃B,m id=some B∧updM m (frz mm p.fz) id=some B∧B.owned=true:=λid hid=>by
   obtain⟨B,h1,h2⟩:=hown id hid
   exact⟨B,h1,by rw[gc,if_neg (lu hdj id (db.2 hid))];exact h1,h2⟩
  have hpo:plOf g2=plOf g:=by
   funext o
   cases o with
   | none=>rfl
   | some i=>simp only[plOf,hids]
  have hbk:∀id b,g2.blk id b↔g.blk id b:=λid b=>by unfold G.blk;rw[hids]
  rw[hpo]at k1;rw[hids]at k2;refine⟨bxs,k1,k2,k5,hown,hfr1,hown1,fw hm (eb hnd) hown,?_,?_⟩
  ·intro b hb hi;obtain⟨id,h1,h2⟩:=bk.1 hb;obtain⟨B,_,h3,h4⟩:=hown1 id h1;exact(hfr1.own id B b h3 h4 ((hbk id b).2 h2)).2 hi
  ·intro b hb;obtain⟨id,h1,h2⟩:=bk.1 hb;obtain⟨B,h3,h4⟩:=hown id h1;exact(hm.ok id B h3).place hm.imm (Blk.noAls h4) h2
 obtain⟨hent,hfn⟩:=hΓ f sp hsp;intro next Q hn;unfold Oper.wp;rw[hrun]
 cases hfl:(outs sp).all (Kd.flatR F)with
 | true=>
  rw[hfl]at pre;obtain⟨bxs,k1,k2,k5,hown,hfr1,hown1,hpl⟩:=pre hm.lf rfl (B9 hr);refine(hfn p.x r hD _ w vs _ bxs k1 hpl hfr1.imm).mono ?_;rintro e w' ⟨rvs,imm',pls',rfl,e1,e2,e3,edr,e4,e5,e6,e7,e8,e9,e10,e11⟩
  obtain⟨g',q1,q2,q3,q4⟩:=BZ (I:=g.imm) hm hm rfl rfl (λ_ h=>h) hall hd hfr (λid hid=>by obtain⟨B,h1,h2⟩:=hown id hid;exact⟨B,h1,h1,h2⟩) k5 k2 hpl (λb h=>.inl (.inl h)) e1 e2 e3 edr e4 e5
   (λ_ h=>h) (λb h=>e6 b (.inl (.inl h))) (λb h=>.inl h) e8 e10 e11 (wL hfl e9)
  refine hn _ w' g' q1 ?_ q3 q4;simpa[hfl]using q2
 | false=>
  rw[hfl]at pre;obtain⟨bxs,k1,k2,k5,hown,hfr1,hown1,hpl⟩:=pre hm rfl hr;refine(hfn p.x r hD _ w vs _ bxs k1 hpl hfr1.imm).mono ?_;rintro e w' ⟨rvs,imm',pls',rfl,e1,e2,e3,edr,e4,e5,e6,e7,e8,e9,e10,e11⟩;obtain⟨g',q1,q2,q3,q4⟩:=BZ (I:=imm') hm hfr1 rfl rfl (λb h=>.inl h) hall hd hfr hown1 k5 k2 hpl (λb h=>h) e1 e2 e3 edr e4 e5
   e6 (λb h=>h) e7 e8 e10 e11 e9
  refine hn _ w' g' q1 ?_ q3 q4;simp only[hfl,Bool.false_eq_true,if_false,List.append_assoc];rw[dw];exact q2
theorem Fc{g:G}{I:Nat→Prop}{ks:List Nat}{c:Cel F}{v:Value}(h:RepC g w c v):RepC (F:=F) ⟨g.ids,I,g.len⟩ w (fgC ks c) v:=by
 cases c with
 | im d=>
  simp only[fgC]
  cases hd:d.flat with
  | true=>cases h with | im h=>exact .im (h.flat hd)
  | false=>exact .one (h.oneCell (by simp))
 | wsl id=>
  simp only[fgC]
  cases hk:memN id ks with
  | false=>exact .one (h.oneCell (by simp))
  | true=>
   cases h with
   | wsl0 p h=>exact .wsl0 p h
   | wsl h hl hm=>exact .wsl h hl hm
 | any=>exact .any
 | _=>exact .one (h.oneCell (by simp))
theorem IN{g:G}{I:Nat→Prop}{ks:List Nat}{d:Dat F}{v:Value}(h:RepD P g w d v):RepD P ⟨g.ids,I,g.len⟩ w (fgD ks d) v:=by
 cases h with
 | c h=>exact .c (Fc h)
 | agg hl h=>
  refine .agg (by rw[List.length_map];exact hl) λk c x a b=>?_
  rw[List.getElem?_map]at a;obtain⟨c0,h0,rfl⟩:=Option.map_eq_some_iff.1 a;exact Fc (h k c0 x h0 b)
 | _=>exact .c .any
theorem HP{g:G}{I:Nat→Prop}{ks:List Nat}{ds:List (Dat F)}{vs:List Value}(h:RepDs P g w ds vs):RepDs P ⟨g.ids,I,g.len⟩ w (ds.map (fgD ks)) vs:=by
 refine⟨by rw[List.length_map];exact h.1,λk d x a b=>?_⟩
 rw[List.getElem?_map]at a;obtain⟨c0,h0,rfl⟩:=Option.map_eq_some_iff.1 a;exact IN (h.2 k c0 x h0 b)
theorem Ij{g:G}{I:Nat→Prop}{c n:Nat}{bx:List Nat}{bs:List (Nat×Blk F)}(h:Back g w c n bx bs):Back ⟨g.ids,I,g.len⟩ w c n bx (bs.filter fgB):=by
 intro p hp;obtain⟨h1,h2⟩:=List.mem_filter.1 hp;obtain⟨k1,k2,k3⟩:=h p h1;refine⟨k1,?_,k3⟩;obtain⟨id,B⟩:=p
 cases B with
 | row t l=>
  simp only[fgB]at h2;rcases k2 with k2 | ⟨b,cap,cur,e,q1,q2,q3,q4,q5,q6⟩
  ·exact .inl k2
  ·exact .inr ⟨b,cap,cur,e,q1,q2,q3,q4,q5,λk d x a b=>(q6 k d x a b).flat (zY h2 d (List.mem_of_getElem? a))⟩
 | _=>simp[fgB]at h2
theorem FZ(hm:MemOk own g w m)(hall:∀b,w.heap.size≤b→own.o b){u:Nat→Bool}(hd:∀id,u id=false→g.ids id=none)
  {os:List (Option Nat)} {bx:List Nat} {bxs:List Pl} {pls':List Pl} {imm0 imm':Nat→Prop} {w':World} {rvs:List Value} {ks:List Kd} {r:TL F ks}
  (hfr:∀k,k<(ap ks r bx c).2.2 - c→u (c+k)=false)
  (hos:∀id,some id∈os→∃B,m id=some B∧B.owned=true) (hbx:∀id∈bx,some id∈os) (hbxs:bx.map g.ids=bxs.map some)
  (hp:PlOk w imm0 (plBlks (os.map (plOf g)))) (h0:∀b,g.imm b→imm0 b)
  (e1:w'.os=w.os) (e2:w'.tape=w.tape) (e3:w'.output=w.output) (e4:w.drawn≤w'.drawn)
  (hsz:w.heap.size≤w'.heap.size) (hfrm:∀b,b<w.heap.size→b∉plBlks (os.map (plOf g))→w'.heap[b]? = w.heap[b]?)
  (i2:∀b,g.imm b→imm' b) (i4:∀b,imm' b→b<w'.heap.size)
  (hp':PlOk w' imm' (plBlks bxs++plBlks pls')) (hin:∀b∈plBlks bxs++plBlks pls',b∈plBlks (os.map (plOf g))∨w.heap.size≤b)
  (hout:bC P w' imm' ks r rvs bxs pls') :
  ∃g',RepD P g' w' (tupD ((ap ks r bx c).1.map (fgD (((ap ks r bx c).2.1.filter fgB).map (·.1))))) (tupV rvs)∧MemOk own g' w' (updM m (nones (somes os)++blks ((ap ks r bx c).2.1.filter fgB)))∧Stp m g w g' w'∧∀id,u id=false→(id<c∨c+((ap ks r bx c).2.2 - c)≤id)→g'.ids id=none:=by
 have hlen:bx.length=bxs.length:=by simpa using congrArg List.length hbxs
 have hcnt:=cz (c:=c) hout hlen
 have hfr':∀k,k<pls'.length→g.ids (c+k)=none:=λk hk=>hd _ (hfr k (by rw[hcnt];omega))
 have hnot:∀{id:Nat},g.ids id≠none→¬ (c≤id∧id<c+pls'.length):=by
  intro id h hc
  exact h (by have:=hfr' (id - c) (by omega);rwa [Nat.add_sub_cancel' hc.1]at this)
 have hbxs':bx.map (g.back c pls' imm').ids=bxs.map some:=by
  rw[← hbxs];refine List.map_congr_left λid hid=>?_;obtain⟨q,_,hq⟩:=kt hbxs hid
  exact cy (hnot (by rw[hq];simp))
 obtain⟨k1,k2,k3⟩:=de (g:=g.back c pls' imm') (c:=c) (bx:=bx) hout xU hbxs';have k1':RepDs P (g.back c pls' g.imm) w' ((ap ks r bx c).1.map (fgD (((ap ks r bx c).2.1.filter fgB).map (·.1)))) rvs:=HP k1;have k2':Back (g.back c pls' g.imm) w' c pls'.length bx ((ap ks r bx c).2.1.filter fgB):=Ij k2
 refine⟨g.back c pls' g.imm,EC k1',u6 hm hm rfl rfl hall rfl hfr' (λid hid=>by obtain⟨B,h1,h2⟩:=hos id hid;exact⟨B,h1,h1,h2⟩) hbx hbxs hp h0 hsz hfrm (λ_ h=>h) i2 (λb h=>.inl h) i4 hp' hin k2',⟨⟨?_,λb hb=>hb,?_,λ_ h=>h,λb hb=>hfrm b (hm.len b hb).2 (λhin=>by obtain⟨id,h1,h2⟩:=bk.1 hin;obtain⟨B,l1,l2⟩:=hos id h1;exact(hm.len b hb).1 (hm.own id B b l1 l2 h2).1)⟩,e1,e2,e3,hsz,?_,e4⟩,?_⟩
 ·intro id q hq
  rw[cy (hnot (by rw[hq];simp))]
  exact hq
 ·intro b hb;exact hfrm b (hm.imm b hb) (λhin=>hp.imm b hin (h0 b hb))
 ·intro b hb hno;refine hfrm b hb (λhin=>?_);obtain⟨id,h1,h2⟩:=bk.1 hin;obtain⟨B,l1,l2⟩:=hos id h1;exact hno id B l1 l2 h2
 ·intro id hu hw
  rw[cy (by rw[hcnt]at hw;omega)]
  exact hd id hu
theorem FM(hΓ : CtxOk P Γ)(hm:MemOk own g w m)(hle:MLe mm m){u:Nat→Bool}(hd:∀id,u id=false→g.ids id=none)(hall:∀b,w.heap.size≤b→own.o b)
  {f:FuncId} {args:List (Dat F)} {vs:List Value} (hr:RepDs P g w args vs) {sp:Spec F} (hsp:look Γ f=some sp) {p:Pk (HL F sp.ks)} (hp:ky Γ mm sp.ks (args.map unln)=some p)
  (hnd:cA (somes p.os)=true) (hdj:disjN (somes p.os) p.fz=true) {r:TL F (outs sp)} (hD:sp.D p.x=some r)
  (hfr:∀k,k<(ap (outs sp) r p.bx c).2.2 - c→u (c+k)=false) (hrun:(execOp a.eval o).run P w = .ok (.enter f ⟨vs⟩) w) :
  Outc P own m u g w o a c { val:=tupD ((ap (outs sp) r p.bx c).1.map (fgD (((ap (outs sp) r p.bx c).2.1.filter fgB).map (·.1)))),mw:=nones (somes p.os)++blks ((ap (outs sp) r p.bx c).2.1.filter fgB),nu:=(ap (outs sp) r p.bx c).2.2 - c }:=by
 have hm2:=hm.lf;have hr2:=B9 hr;have hfz:Frz g.lf p.fz (g.lf.fzs p.fz).imm:=⟨λ_ h=>.inl h,λid hid b hb=>.inr ⟨id,hid,hb⟩⟩;obtain⟨bxs,k1,k2,k3,k4,k5⟩:=tP hΓ hm2 hle hp hfz hr2
 have hown:∀id,some id∈p.os→∃B,m id=some B∧B.owned=true:=λid hid=>by obtain⟨B,h1,h2⟩:=k4 id hid;exact⟨B,hle _ _ h1,h2⟩
 have hfr1:=freeze hm2 hle k3
 have hpo:plOf g.lf=plOf g:=by
  funext o
  cases o with
  | none=>rfl
  | some i=>rfl
 rw[hpo]at k1
 have hpl:PlOk w (g.lf.fzs p.fz).imm (plBlks (p.os.map (plOf g))):=by
  refine⟨fw hm (eb hnd) hown,?_,?_⟩
  ·intro b hb hi;obtain⟨id,h1,h2⟩:=bk.1 hb;obtain⟨B,h3,h4⟩:=hown id h1
   have h3':updM m (frz mm p.fz) id=some B:=by rw[gc,if_neg (lu hdj id (db.2 h1))];exact h3
   exact(hfr1.own id B b h3' h4 h2).2 hi
  ·intro b hb;obtain⟨id,h1,h2⟩:=bk.1 hb;obtain⟨B,h3,h4⟩:=hown id h1;exact(hm.ok id B h3).place hm.imm (Blk.noAls h4) h2
 obtain⟨hent,hfn⟩:=hΓ f sp hsp;intro next Q hn;unfold Oper.wp;rw[hrun];refine(hfn p.x r hD _ w vs _ bxs k1 hpl hfr1.imm).mono ?_;rintro e w' ⟨rvs,imm',pls',rfl,e1,e2,e3,edr,e4,e5,e6,e7,e8,e9,e10,e11⟩;obtain⟨g',q1,q2,q3,q4⟩:=FZ hm hall hd hfr hown k5 k2 hpl (λb h=>.inl (.inl h)) e1 e2 e3 edr e4 e5
  (λb h=>e6 b (.inl (.inl h))) e8 e10 e11 e9
 exact hn _ w' g' q1 (by simpa using q2) q3 q4
end
set_option linter.unusedVariables false
set_option linter.unusedSimpArgs false
section
variable{F:Fam}{P:Program}{T:TypeId→Option (TI F)}{Γ : Ctx F}{o:Oper}{vals:List (Dat F)}{mm:Nat→Option (Blk F)}{c:Nat}{R:Type}{K:Res F→Option R}
variable{own:Ow}{g:G}{w:World}{m:Nat→Option (Blk F)}{u:Nat→Bool}{a:Act}
theorem FB(hm:MemOk own g w m)(hd:∀id,u id=false→g.ids id=none)(hall:∀b,w.heap.size≤b→own.o b)(hfr:u c=false){ob:Obj}{B:Blk F}{d:Dat F}{v:Value}
  (hv:∀g' w',g'.ids c=some (some (w.heap.size,0,0,[]))→RepD P g' w' d v)
  (hB:∀g' w',Le g w g' w'→g'.ids c=some (some (w.heap.size,0,0,[]))→w'.heap[w.heap.size]? = some ob→BlkOk g' w' c B)
  (hrun:(execOp a.eval o).run P w = .ok (.value v) (w.alloc ob)):Outc P own m u g w o a c { val:=d,mw:=[(c,some B)],nu:=1 }:=by
 have hf:g.ids c=none:=hd c hfr;have hold:∀b,b<w.heap.size→(w.alloc ob).heap[b]? = w.heap[b]?:=λb hb=>heap_alloc_old w ob b hb;have hnew:(w.alloc ob).heap[w.heap.size]? = some ob:=heap_alloc_new w ob
 obtain⟨k1,k2⟩:=gz (rm:=[]) (pl:=some (w.heap.size,0,0,[])) (B:=B) hm hf (w':=w.alloc ob) (by
  intro b0 c e b hb;cases e;simp only[nbl,LS]at hb;subst hb
  exact .inl ⟨Nat.le_refl _,by rw[World.size_alloc];omega,hall _ (Nat.le_refl _)⟩) rfl rfl rfl (Nat.le_refl _) (by rw[World.size_alloc];omega) (λb hb _=>hold b hb) (λg' hle hi=>hB g' _ hle hi hnew)
 intro next Q hn;unfold Oper.wp;rw[hrun];refine hn _ _ (g.name c (some (w.heap.size,0,0,[]))) (hv _ _ (aT _ _ _)) k1 k2 ?_;intro x hu hx;have hx:x<c∨c+1≤x:=hx
 have:x≠c:=by omega
 rw[bw _ _ _ this];exact hd x hu
theorem zb{t:TypeId}{k v:TypeId}{tt:Ty}(h:mapTy T t=some (k,v,tt)):∃ti,T t=some ti∧ti.desc = .map k v∧tt.isMp=true:=by
 unfold mapTy at h;split at h
 ·rename_i k' v' _ _ _ tt' _ ht
  cases hm:tt'.isMp with
  | false=>rw[hm]at h;cases h
  | true=>rw[hm]at h;cases h;exact⟨_,ht,rfl,hm⟩
 ·cases h
theorem CR(hT:TblOk P T){t:TypeId}(ho:o.op = .makeMap t none):Rule P o vals mm c K (zu T c K t):=by
 unfold zu;split
 ·rename_i k v tt ht;intro r hr;refine⟨_,hr,?_⟩;intro own g w a m u hle hm hd hall hfr hrep
  refine FB (ob:=.map #[] 0) hm hd hall (hfr 0 (by simp)) (v:=.map (some w.heap.size)) ?_ ?_ ?_
  ·intro g' w' hi;exact .c (.mpc hi)
  ·intro g' w' hle' hi hh
   exact⟨w.heap.size,hi,[],hh,rfl,by simp⟩
  ·simp[execOp,ho,Instr.makeMap,newObj];rfl
 ·exact ad
theorem H1{ts r:List Ty}{k:IntKind}(h:ts = .int k::r)(a:TupT F ts){kd:ND F}{vds:List (ND F)}(he:encF F ts a=kd::vds):∃n,kd = .i k n:=by subst h;simp only[encF,enc1,List.cons.injEq]at he;exact⟨_,he.1.symm⟩
theorem Hd{ts r:List Ty}(h:ts = .str::r)(a:TupT F ts){kd:ND F}{vds:List (ND F)}(he:encF F ts a=kd::vds):∃l,kd = .s l:=by subst h;simp only[encF,enc1,List.cons.injEq]at he;exact⟨_,he.1.symm⟩
theorem BP{tt:Ty}{d:TypeDesc}{kd:ND F}(h:keyOk tt (some d) kd=true){w:World}{imm:Nat→Prop}{kv:Value}(hk:RepI w imm kd kv) :
  MapKept.IsKey d kv∧∀(w':World)(imm':Nat→Prop)(x:ET F tt)(kd':ND F) (vds:List (ND F)) (ek:Value),encT F tt x=kd'::vds→RepI w' imm' kd' ek→(keyIs tt kd x=true↔ek=kv)∧MapKept.IsKey d ek:=by
 unfold keyOk at h;split at h
 ·rename_i n;split at h
  ·rename_i K r K' K'' m hfs hd;cases hd;simp only[Bool.and_eq_true,decide_eq_true_eq]at h;obtain⟨rfl,rfl⟩:=h;cases hk;refine⟨rfl,λw' imm' x kd' vds ek he hr=>?_⟩;obtain⟨m',rfl⟩:=H1 hfs _ he;cases hr;unfold keyIs;rw[he];refine⟨?_,rfl⟩;simp only[beq_iff_eq,Value.int.injEq,true_and];exact eq_comm
  ·rename_i r l hfs hd;cases hd;cases hk;refine⟨trivial,λw' imm' x kd' vds ek he hr=>?_⟩;obtain⟨l',rfl⟩:=Hd hfs _ he;cases hr;unfold keyIs;rw[he];refine⟨?_,trivial⟩;simp only[beq_iff_eq,Value.string.injEq];constructor
   ·rintro rfl;rfl
   ·intro e;have:=congrArg (λb:ByteArray=>b.data.toList) e;exact this.symm
  ·cases h
 ·cases h
theorem zP{tt:Ty}{p:ET F tt→Bool}{d:TypeDesc}{kv:Value}(hk:MapKept.IsKey d kv):∀(l:List (ET F tt)) (es:List MapEntry) (i:Nat),es.length=l.length→
  (∀(k:Nat)(x:ET F tt)(e:MapEntry),l[k]? = some x→es[k]? = some e→(p x=true↔e.key=kv)∧MapKept.IsKey d e.key)→
  (Instr.findNow d kv es i=some none∧l.find? p=none∧(∀y,mput p l y=l++[y])∧mhas p l=false)∨
  ∃j x e,Instr.findNow d kv es i=some (some (i+j,e.val))∧l[j]? = some x∧es[j]? = some e∧e.key=kv∧l.find? p=some x∧(∀y,mput p l y=l.set j y)∧mhas p l=true
 | [],es,i,hl,h=>by
  have:es = []:=List.eq_nil_of_length_eq_zero (by simpa using hl)
  subst this;exact .inl ⟨rfl,rfl,λ_=>rfl,rfl⟩
 | x::l,[],i,hl,h=>by simp at hl
 | x::l,e::es,i,hl,h=>by
  obtain⟨h1,h2⟩:=h 0 x e rfl rfl;obtain⟨r,hr,hiff⟩:=MapKept.sameNow_of_keys hk h2
  cases hp:p x with
  | true=>
   have he:=h1.1 hp;have hrt:r=true:=hiff.2 he.symm;subst hrt
   exact .inr ⟨0,x,e,by simp[Instr.findNow,hr],rfl,rfl,he,by simp[hp],λy=>by simp[mput,hp],by simp[mhas,hp]⟩
  | false=>
   have hne:¬ kv=e.key:=λq=>by have:=h1.2 q.symm;rw[hp]at this;cases this
   have hrf:r=false:=by
    cases r with
    | false=>rfl
    | true=>exact absurd (hiff.1 rfl) hne
   subst hrf
   rcases zP hk l es (i+1) (by simpa using hl) (λk x e a b=>h (k+1) x e a b)with⟨k1,k2,k3,k4⟩ | ⟨j,x',e',k1,k2,k3,k4,k5,k6,k7⟩
   ·exact .inl ⟨by simp[Instr.findNow,hr,k1],by simp[hp,k2],λy=>by simp[mput,hp,k3],by unfold mhas at k4 ⊢;simp[hp,k4]⟩
   ·exact .inr ⟨j+1,x',e',by simp[Instr.findNow,hr,k1];omega,by simpa using k2,by simpa using k3,k4,by simp[hp,k5],λy=>by simp[mput,hp,k6],by unfold mhas at k7 ⊢;simp[hp,k7]⟩
theorem zL{tt:Ty}{x:ET F tt}{d:Dat F}(h:ur tt x=some d){kd:ND F}{vds:List (ND F)}(he:encT F tt x=kd::vds){v:Value}(hv:RepT w g.imm (vds,tt.mpS) v):RepD P g w d v:=by
 unfold ur at h;rw[he]at h;dsimp only at h
 cases hs:tt.mpS with
 | true=>
  rw[hs]at h hv;cases h
  cases hv with
  | agg hl hh=>
   refine .agg (by simpa using hl) λk c x a b=>?_
   rw[List.getElem?_map,Option.map_eq_some_iff]at a;obtain⟨d,hd,rfl⟩:=a;exact .im (hh k d x hd b)
 | false=>
  rw[hs]at h hv;simp only[cond_false]at h;split at h
  ·cases h
   cases hv with
   | one h=>exact .c (.im h)
  ·cases h
theorem F9(hT:TblOk P T){v:TypeId}{tt:Ty}{kd:ND F}{z:ET F tt}(h:Bf T v tt kd=some z){d:Dat F}(hd:ur tt z=some d):∃zv,(zeroValue v).run P w = .ok zv w∧RepD P g w d zv:=by
 unfold Bf at h;split at h
 ·rename_i te hte
  cases hc:dl te.desc == tt.mpS with
  | false=>rw[hc]at h;cases h
  | true=>
   rw[hc]at h;simp only[cond_true]at h
   have hag:dl te.desc=tt.mpS:=by simpa using hc
   have hle:=bG F h;obtain⟨j,hj,_,_,zv,hz,hzs,hzl,hr⟩:=hT.info v te hte;have hza:=hT.zag v te j zv hte hj hz
   refine⟨zv,by simp[zeroValue,typeInfo,hj,hz],?_⟩
   cases he:encT F tt z with
   | nil=>rw[he]at hle;exact absurd hle.1 (by simp)
   | cons kd' vds=>
    rw[he]at hle
    have hl2:Les te.zero vds:=⟨by simpa using hle.1,λk a b h1 h2=>hle.2 (k+1) a b h1 h2⟩
    refine zL hd he ?_
    cases hs:tt.mpS with
    | true=>
     rw[hag,hs]at hza
     cases zv with
     | agg cs=>
      refine .agg (by show cs.toList.length=vds.length;rw[← hl2.1,hzl,← hzs];rfl) λk c x a b=>?_
      have hlt:k<te.zero.length:=by rw[hl2.1];exact(LQ.1 a).1
      exact(hr w g.imm k _ x (LP hlt) (by rw[← Array.getElem?_toList];exact b)).nle (hl2.2 k _ c (LP hlt) a)
     | _=>cases hza
    | false=>
     unfold ur at hd;rw[he,hs]at hd;simp only[cond_false]at hd;split at hd
     ·rename_i d0;rw[hag,hs]at hza
      have h0:0<te.zero.length:=by rw[hl2.1];simp
      have hcell:zv.cells[0]? = some zv:=by
       cases zv<;>first | rfl | cases hza
      exact .one ((hr w g.imm 0 _ zv (LP h0) hcell).nle (hl2.2 0 _ d0 (LP h0) rfl))
     ·cases hd
 ·cases h
theorem Cg{tt:Ty}{d:TypeDesc}{kd:ND F}(h:keyOk tt (some d) kd=true){imm:Nat→Prop}{kv:Value}(hk:RepI w imm kd kv){l:List (ET F tt)}{es:List MapEntry}
  (h3:∀(k:Nat)(x:ET F tt)(e:MapEntry),l[k]? = some x→es[k]? = some e→e.born=k∧∃kd vds,encT F tt x=kd::vds∧RepI w imm kd e.key∧RepT w imm (vds,tt.mpS) e.val) :
  ∀(k:Nat)(x:ET F tt)(e:MapEntry),l[k]? = some x→es[k]? = some e→(keyIs tt kd x=true↔e.key=kv)∧MapKept.IsKey d e.key:=by
 intro k x e a b;obtain⟨_,kd',vds,q1,q2,_⟩:=h3 k x e a b;exact(BP h hk).2 w imm x kd' vds e.key q1 q2
theorem Es(hT:TblOk P T){t:TypeId}{x y:Operand}{ok:Bool}(ho:o.op = .lookup t x y ok):Rule P o vals mm c K (A5 T vals mm K t ok):=by
 unfold A5;split
 ·rename_i k v tt id kd hmt;split
  ·rename_i tt' l hid;split
   ·rename_i htt;subst htt
    cases hko:keyOk tt' (et T k) kd with
    | false=>exact ad
    | true=>
     simp only[cond_true];split
     ·rename_i z hz;split
      ·rename_i d hd;refine ao ?_;intro own g w a m hle hm hr;rw[ho]at hr;simp only[Op.operands,List.map_cons,List.map_nil]at hr;obtain⟨hx,hy⟩:=reps2 hr;obtain⟨ti,ht,hde,hmp⟩:=zb hmt;obtain⟨b,k1,k2,es,k3,k4,k5⟩:=uA hm (hle _ _ hid);obtain⟨b',c',k6,ex⟩:=uq (aO hx);rw[k2]at k6;cases k6;have hu:=hT.und _ _ ht;rw[hde]at hu
       cases hdk:et T k with
       | none=>rw[hdk]at hko;unfold keyOk at hko;split at hko<;>(try cases hko);split at hko<;>simp_all
       | some dk=>
        rw[hdk]at hko
        have huk:P.underlying k=some dk:=by
         unfold et at hdk;split at hdk
         ·rename_i ti' hti';cases hdk;exact hT.und _ _ hti'
         ·cases hdk
        have hkv:=bT (aO hy);have hrel:=Cg hko hkv k5;have hik:=(BP hko hkv).1
        have hfin:∀{v':Value}{bb:Bool}{d':Dat F},RepD P g w d' v'→(mhas (keyIs tt' kd) l=bb)→RepD P g w (cond ok (.tup [d',.c (.im (.b (mhas (keyIs tt' kd) l)))]) d') (if ok=true then .tuple #[v',.bool bb]else v'):=by
         intro v' bb d' hv' hb
         cases ok with
         | false=>exact hv'
         | true=>
          refine .tup rfl λj d0 x0 a0 b0=>?_
          match j with
          | 0=>cases a0;cases b0;exact hv'
          | 1=>cases a0;cases b0;rw[hb];exact .c (.im (.b _))
          | j+2=>simp at a0
        rcases zP (p:=keyIs tt' kd) hik l es 0 k4 hrel with⟨f1,f2,_,f4⟩ | ⟨j,x0,e0,f1,f2,f3,f4,f5,_,f7⟩
        ·obtain⟨zv,hz1,hz2⟩:=F9 (w:=w) (g:=g) hT hz (d:=d) (by rw[← hd];unfold mget;rw[f2];rfl)
         refine⟨if ok=true then .tuple #[zv,.bool false]else zv,?_,hfin hz2 f4⟩
         simp only[execOp,ho,ex,Instr.lookup,Sem.run_bind,run_underlying hu,Result.andThen_ok,MapKept.run_getObj_map k3,Sem.run_pure,MapKept.run_checkKey huk hik,MapKept.run_findKey huk f1,hz1]
        ·obtain⟨_,kd',vds,q1,q2,q3⟩:=k5 j x0 e0 f2 f3
         refine⟨if ok=true then .tuple #[e0.val,.bool true]else e0.val,?_,hfin (zL (x:=x0) (by rw[← hd];unfold mget;rw[f5];rfl) q1 q3) f7⟩
         simp only[execOp,ho,ex,Instr.lookup,Sem.run_bind,run_underlying hu,Result.andThen_ok,MapKept.run_getObj_map k3,Sem.run_pure,MapKept.run_checkKey huk hik,MapKept.run_findKey huk f1]
      ·exact ad
     ·exact ad
   ·exact ad
  ·exact ad
 ·exact ad
def stO(w:World)(b:Nat)(ob:Obj):World:={ w with heap:=w.heap.setIfInBounds b ob }
theorem wW(w:World)(b:Nat)(ob:Obj){b':Nat}(h:b'≠b):(stO w b ob).heap[b']? = w.heap[b']?:=by show(w.heap.setIfInBounds b ob)[b']? = _;simp[Ne.symm h]
theorem CW(w:World)(b:Nat)(ob:Obj)(h:b<w.heap.size):(stO w b ob).heap[b]? = some ob:=by show(w.heap.setIfInBounds b ob)[b]? = _;simp[h]
theorem zK(w:World)(b:Nat)(ob:Obj):(stO w b ob).heap.size=w.heap.size:=by show(w.heap.setIfInBounds b ob).size=_;simp
theorem uY(hm:MemOk own g w m){id b:Nat}{ob:Obj}{B B':Blk F}(hB:m id=some B)(ho:B.owned=true)(hblk:g.blk id b)
  (hB':(stO w b ob).heap[b]? = some ob→Le g w g (stO w b ob)→BlkOk g (stO w b ob) id B') :
  MemOk own g (stO w b ob) (updM m [(id,some B')])∧Stp m g w g (stO w b ob):=by
 have hlt:b<w.heap.size:=(hm.ok id B hB).place hm.imm (Blk.noAls ho) hblk;have hne:∀b',b'≠b→(stO w b ob).heap[b']? = w.heap[b']?:=λb' h=>wW w b ob h;have hnimm:¬ g.imm b:=(hm.own id B b hB ho hblk).2;have hle:Le g w g (stO w b ob):=⟨λ_ _ h=>h,λ_ h=>h,λb' hb'=>hne b' (λe=>hnimm (e▸hb')),λ_ h=>h,λb' hb'=>hne b' (λe=>(hm.len b' hb').1 (e▸(hm.own id B b hB ho hblk).1))⟩
 have less:∀x,x≠id→∀Bx,updM m [(id,some B')] x=some Bx→m x=some Bx:=by intro x hx Bx h;simp only[updM]at h;rw[am (λe=>hx e.symm)]at h;simpa using h
 refine⟨?_,hle,rfl,rfl,rfl,by rw[zK];exact Nat.le_refl _,?_,Nat.le_refl _⟩
 ·refine hm.chg (S:=λx=>x=id) hle less (λ_ _=>rfl) ?_ ?_ ?_ hm.io (λb' hb'=>⟨(hm.len b' hb').1,by rw[zK];exact(hm.len b' hb').2⟩)
  ·intro x Bx b' hx hBx hox hbx;refine⟨hne b' (λe=>hx ?_),(hm.own x Bx b' hBx hox hbx).2⟩;subst e;exact hm.dis x id Bx B b' hBx hB hox ho hbx hblk
  ·rintro x Bx rfl hBx;simp only[updM,aV,if_true,Option.some.injEq]at hBx;subst hBx;refine⟨hB' (CW w b ob hlt) hle,?_⟩;rintro b' hob hb';refine⟨(hm.own x B b' hB ho hb').1,(hm.own x B b' hB ho hb').2,?_⟩;intro y By hy hoy hby;by_cases hyx:y=x
   ·exact hyx
   ·exact hm.dis y x By B b' (less y hyx By hy) hB hoy ho hby hb'
  ·intro b' hb';rw[zK];exact hm.imm b' hb'
 ·intro b' _ hno;exact hne b' (λe=>hno id B hB ho (e▸hblk))
theorem CE(hm:MemOk own g w m)(hle:MLe mm m){tt:Ty}{d:Dat F}{cs:List (Cel F)}(h:xe tt d=some cs){ds:List (ND F)}(hds:bJ mm cs=some (ds,[])){v:Value}(hv:RepD P g w d v){vds:List (ND F)}(hl:Les ds vds):RepT w g.imm (vds,tt.mpS) v:=by
 have nd:=λ(vs:List Value)(hr:∀(k:Nat)(x:Cel F)(v:Value),cs[k]? = some x→vs[k]? = some v→RepC g w x v)=>ft hm hle hds (g1:=g) (.refl g w) (by simp) vs hr
 have hlen:=dQ hds;unfold xe at h;split at h
 ·rename_i x
  cases hs:tt.mpS with
  | true=>rw[hs]at h;cases h
  | false=>
   rw[hs]at h;cases h
   have h1:=nd [v] (λk x0 v0 a b=>by
    cases k with
    | zero=>cases a;cases b;exact aO hv
    | succ k=>simp at a)
   match ds,hlen,hl,h1 with
   | [d0],_,hl,h1=>
    match vds,hl with
    | [d1],hl=>exact .one ((h1 0 d0 v rfl rfl).nle (hl.2 0 d0 d1 rfl rfl))
    | [],hl=>exact absurd hl.1 (by simp)
    | _::_::_,hl=>exact absurd hl.1 (by simp)
   | [],hlen,_,_=>simp at hlen
   | _::_::_,hlen,_,_=>simp at hlen
 ·rename_i cs'
  cases hs:tt.mpS with
  | false=>rw[hs]at h;cases h
  | true=>
   rw[hs]at h;cases h
   cases hv with
   | agg hl2 hh=>
    rename_i vs;have h1:=nd vs hh
    refine .agg (by rw[hl2,← hlen,hl.1]) λk c x a b=>?_
    have hlt:k<ds.length:=by rw[hl.1];exact(LQ.1 a).1
    exact(h1 k _ x (LP hlt) b).nle (hl.2 k _ c (LP hlt) a)
 ·cases h
theorem BM(hT:TblOk P T){t:TypeId}{x y z:Operand}(ho:o.op = .mapUpdate t x y z):Rule P o vals mm c K (u1 T vals mm K t):=by
 unfold u1;split
 ·rename_i k v tt id kd d hmt;split
  ·rename_i tt' l cs hid hcs;split
   ·rename_i htt;subst htt
    cases hko:keyOk tt' (et T k) kd with
    | false=>exact ad
    | true=>
     simp only[cond_true];split
     ·rename_i ds hds;split
      ·rename_i ny hny;intro r hr;refine⟨_,hr,?_⟩;intro own g w a m u hle hm hd hall hfr hrep;rw[ho]at hrep;simp only[Op.operands,List.map_cons,List.map_nil]at hrep;obtain⟨hx,hyz⟩:=aL.1 hrep;obtain⟨hy,hz⟩:=reps2 hyz;obtain⟨ti,ht,hde,hmp⟩:=zb hmt;obtain⟨b,k1,k2,es,k3,k4,k5⟩:=uA hm (hle _ _ hid);obtain⟨b',c',k6,ex⟩:=uq (aO hx);rw[k2]at k6;cases k6;have hu:=hT.und _ _ ht;rw[hde]at hu
       cases hdk:et T k with
       | none=>rw[hdk]at hko;unfold keyOk at hko;split at hko<;>(try cases hko);split at hko<;>simp_all
       | some dk=>
        rw[hdk]at hko
        have huk:P.underlying k=some dk:=by
         unfold et at hdk;split at hdk
         ·rename_i ti' hti';cases hdk;exact hT.und _ _ hti'
         ·cases hdk
        have hkv:=bT (aO hy);have hrel:=Cg hko hkv k5;have hik:=(BP hko hkv).1;have hle2:=bG F hny
        cases he:encT F tt' ny with
        | nil=>rw[he]at hle2;exact absurd hle2.1 (by simp)
        | cons kd' vds=>
         rw[he]at hle2
         have hl2:Les ds vds:=⟨by simpa using hle2.1,λk a b h1 h2=>hle2.2 (k+1) a b h1 h2⟩
         have hkd:NLe kd kd':=hle2.2 0 kd kd' rfl rfl;have hkv':RepI w g.imm kd' (a.eval y):=hkv.nle hkd;have hval:=CE hm hle hcs hds hz hl2
         have done:∀(es':List MapEntry),(execOp a.eval o).run P w = .ok .skip (stO w b (.map ⟨es'⟩ es'.length))→es'.length=(mput (keyIs tt' kd) l ny).length→
           (∀(k:Nat)(x:ET F tt')(e:MapEntry),(mput (keyIs tt' kd) l ny)[k]? = some x→es'[k]? = some e→e.born=k∧∃kd vds,encT F tt' x=kd::vds∧RepI w g.imm kd e.key∧RepT w g.imm (vds,tt'.mpS) e.val)→
           Outc P own m u g w o a c { val:=.c .any,mw:=[(id,some (.mp tt' (mput (keyIs tt' kd) l ny)))] }:=by
          intro es' hrun h1 h2
          obtain⟨w1,w2⟩:=uY (ob:=.map ⟨es'⟩ es'.length) (B':=.mp tt' (mput (keyIs tt' kd) l ny)) hm (hle _ _ hid) rfl (G.blk_main k2) (by intro hh hle';refine⟨b,k2,es',hh,h1,λk x e p q=>?_⟩;obtain⟨p1,kd0,vds0,p2,p3,p4⟩:=h2 k x e p q;exact⟨p1,kd0,vds0,p2,p3.mono hle'.imm hle'.heap,p4.mono hle'.imm hle'.heap⟩)
          intro next Q hn;unfold Oper.wp;rw[hrun];exact hn undef _ g (.c .any) w1 w2 (λid hu _=>hd id hu)
         rcases zP (p:=keyIs tt' kd) hik l es 0 k4 hrel with⟨f1,f2,f3,f4⟩ | ⟨j,x0,e0,f1,f2,f3,f4,f5,f6,f7⟩
         ·refine done (es++[{ key:=a.eval y,val:=a.eval z,born:=es.length }]) ?_ (by rw[f3];simp[k4]) ?_
          ·simp only[execOp,ho,ex,Instr.mapUpdate,Sem.run_bind,run_underlying hu,Result.andThen_ok,MapKept.run_getObj_map k3,Sem.run_pure,MapKept.run_checkKey huk hik,MapKept.run_findKey huk f1,MapKept.run_setObj_map _ k3];simp[stO]
          ·intro k x e p q;rw[f3]at p;by_cases hk:k<l.length
           ·rw[List.getElem?_append_left hk]at p
            rw[List.getElem?_append_left (by omega)]at q
            exact k5 k x e p q
           ·rw[List.getElem?_append_right (by omega)]at p
            rw[List.getElem?_append_right (by omega)]at q
            have hk0:k - l.length=0:=by have:=(LQ.1 p).1;simp at this;omega
            rw[hk0]at p
            rw[show k - es.length=0 by omega]at q
            cases p;cases q
            exact⟨by show es.length=k;omega,kd',vds,he,hkv',hval⟩
         ·have hjl:j<es.length:=(LQ.1 f3).1
          refine done (es.set j { e0 with key:=a.eval y,val:=a.eval z }) ?_ (by rw[f6];simp[k4]) ?_
          ·have hst:(Instr.keyThatStays (((⟨es⟩:Array MapEntry)[0+j]?.map (·.key)).getD (a.eval y)) (a.eval y)).run P w = .ok (a.eval y) w:=by
            have e1:(((⟨es⟩:Array MapEntry)[0+j]?.map (·.key)).getD (a.eval y))=a.eval y:=by rw[Nat.zero_add,List.getElem?_toArray,f3];exact f4
            rw[e1];exact MapKept.run_keyThatStays hik
           have hmod:(⟨es⟩:Array MapEntry).modify (0+j) (λe=>{ e with key:=a.eval y,val:=a.eval z })=⟨es.set j { e0 with key:=a.eval y,val:=a.eval z }⟩:=by
            apply Array.toList_inj.1;apply List.ext_getElem?;intro i;rw[Array.getElem?_toList,Array.getElem?_modify,List.getElem?_toArray];show _=(es.set j _)[i]?;rw[List.getElem?_set];by_cases hij:j=i
            ·subst hij;simp[hjl,f3];have:=(LQ.1 f3).2;rw[this]
            ·simp[hij]
           simp only[execOp,ho,ex,Instr.mapUpdate,Sem.run_bind,run_underlying hu,Result.andThen_ok,MapKept.run_getObj_map k3,Sem.run_pure,MapKept.run_checkKey huk hik,MapKept.run_findKey huk f1,hst,MapKept.run_setObj_map _ k3,hmod];simp[stO]
          ·intro k x e p q;rw[f6]at p;rw[List.getElem?_set]at p q;by_cases hjk:j=k
           ·subst hjk
            rw[if_pos rfl,if_pos (by omega)]at p q
            cases p;cases q
            exact⟨(k5 j x0 e0 f2 f3).1,kd',vds,he,hkv',hval⟩
           ·rw[if_neg hjk]at p q;exact k5 k x e p q
      ·exact ad
     ·exact ad
   ·exact ad
  ·exact ad
 ·exact ad
end
set_option linter.unusedVariables false
set_option linter.unusedSimpArgs false
section
variable{F:Fam}{P:Program}{T:TypeId→Option (TI F)}{Γ : Ctx F}{o:Oper}{vals:List (Dat F)}{mm:Nat→Option (Blk F)}{c:Nat}{R:Type}{K:Res F→Option R}
variable{own:Ow}{g:G}{w:World}{m:Nat→Option (Blk F)}{u:Nat→Bool}{a:Act}
theorem GK{t ty e:TypeId}{j:TypeInfo}{z:Value}(hu:P.underlying t=some (.slice e))(hj:P.info? e=some j)(hz:j.zero=some z){b q n cap:Nat}{cur:List Value}
  {e':TypeId} (hb:w.heap[b]? = some (.cells ⟨cur⟩ e' (0,0))) (hn:0<n) (h1:∀x∈(Builtin.zeroCells z.cells n).toList,x.oneCell'=true) (hfit:q+(Builtin.zeroCells z.cells n).toList.length≤cur.length) :
  (Builtin.clear_ #[t] ty #[.slice (some ⟨b,q,none⟩) n cap]).run P w =
    .ok (.tuple #[]) (w.setRow b (cur.take q++(Builtin.zeroCells z.cells n).toList++cur.drop (q+(Builtin.zeroCells z.cells n).toList.length)).toArray):=by
 have hst:=run_storeCells_at P b q e' (Builtin.zeroCells z.cells n).toList 0 ⟨cur⟩ w hb (by simpa using hfit) h1
 simp only[Nat.add_zero]at hst
 obtain⟨m,rfl⟩:∃m,n=m+1:=⟨n - 1,by omega⟩
 simp[Builtin.clear_,run_underlying hu,zeroValue,typeInfo,hj,hz,hst]
theorem FK(hT:TblOk P T)(hm:MemOk own g w m)(hd:∀id,u id=false→g.ids id=none)
  {t e:TypeId} {i te:TI F} (ht:T t=some i) (hde:i.desc = .slice e) (hte:T e=some te) {tt:Ty} (hsz:szT F tt=te.size) (h0:0<te.size) {z0:ET F tt} (hz0:decT F tt te.zero=some z0) {x:Operand}
  (ho:o.op = .call { callee:=.builtin .clear,args:=#[x],argTypes:=#[t] }) {l:List (ET F tt)} {id off n:Nat} (hrow:m id=some (.row tt l))
  (hdst:(g.ids id=none∨g.ids id=some none)∧off=0∧n=0∧(∃p,a.eval x = .slice p 0 0)∨∃b q dCap cap,g.ids id=some (some (b,cap,l.length,[]))∧a.eval x = .slice (some ⟨b,q,none⟩) n dCap∧off+n≤l.length∧(n=0∨q=off*szT F tt)) :
  Outc P own m u g w o a c { val:=.tup [],mw:=[(id,some (.row tt (cpy l off n (List.replicate n z0))))] }:=by
 have hu:=hT.und _ _ ht;rw[hde]at hu;obtain⟨j,z,hj,hs,hb,hz,hzs,hml,hzl,hmr⟩:=tc hT hte h0 n
 have runOf:∀{v:Value}{w':World},(Builtin.clear_ #[t] o.type #[a.eval x]).run P w = .ok v w'→(execOp a.eval o).run P w = .ok (.value v) w':=by intro v w' hr;simp only[execOp,ho,resolve,invoke,builtin,Sem.run_bind,Sem.run_pure,Result.andThen_ok,List.map_toArray,List.map_cons,List.map_nil,hr]
 have same:∀{l':List (ET F tt)},l'=l→updM m [(id,some (.row tt l'))]=m:=by
  rintro l' rfl
  funext x
  simp only[updM];split
  ·rename_i hx;rw[← Nat.eq_of_beq_eq_true hx,hrow]
  ·rfl
 have tup0:∀g' w',RepD (F:=F) P g' w' (.tup []) (.tuple #[]):=λg' w'=>.tup rfl (λj d x h=>by simp at h)
 by_cases hn0:n=0
 ·subst hn0
  have hl:cpy l off 0 (List.replicate 0 z0)=l:=by simp[cpy]
  have hrun:(execOp a.eval o).run P w = .ok (.value (.tuple #[])) w:=by
   refine runOf ?_
   have:∃p q,a.eval x = .slice p 0 q:=by
    rcases hdst with⟨_,_,_,p,e⟩ | ⟨b,q,dCap,cap,_,e,_⟩
    ·exact⟨p,0,e⟩
    ·exact⟨_,_,e⟩
   obtain⟨p,q,e⟩:=this;rw[e]
   cases p<;>simp[Builtin.clear_,run_underlying hu]
  intro next Q hn;unfold Oper.wp;rw[hrun]
  exact hn _ w g (tup0 _ _) (by rw[same hl];exact hm) (.refl _ _ _) (λid hu _=>hd id hu)
 ·rcases hdst with⟨_,_,h,_⟩ | ⟨b,q,dCap,cap,hid,hxv,hoff,hq⟩
  ·exact absurd h hn0
  rcases hm.ok id _ hrow with⟨k1,_⟩ | ⟨b',cap2,cur,e',k1,k2,k3,k4,k5,k6⟩
  ·rw[k1]at hid;cases hid
  ·rw[k1]at hid;cases hid;have hq:q=off*szT F tt:=hq.resolve_left hn0;subst hq;have hcl:(cells F tt l).length=l.length*szT F tt:=ay
   have hcur:(cells F tt l).length≤cur.length:=by rw[hcl,k5];exact Nat.mul_le_mul_right _ k3
   obtain⟨zs,hzsd⟩:∃zs,zs=(Builtin.zeroCells z.cells n).toList:=⟨_,rfl⟩
   have hzm:zs=(madeCells z.cells (n*te.size)).toList:=by rw[hzsd];unfold Builtin.zeroCells madeCells;rw[hzs]
   have hfl:(List.replicate n te.zero).flatten.length=n*te.size:=by
    rw[uK (sz:=te.size) (λx hx=>by rw[List.mem_replicate]at hx;rw[hx.2,hzl])]
    simp
   have hzlen:zs.length=n*szT F tt:=by rw[hzm,hml,hfl,hsz]
   have h1:∀x∈zs,x.oneCell'=true:=by
    intro x hx;obtain⟨k,hk⟩:=List.getElem?_of_mem hx
    have hlt:k<(List.replicate n te.zero).flatten.length:=by have:=(LQ.1 hk).1;rw[hfl,← hsz,← hzlen];exact this
    exact(hmr w g.imm k _ x (LP hlt) (by rw[← hzm];exact hk)).oneCell
   have hmin:min n (List.replicate n z0).length=n:=by simp
   have hm1:off+min n (List.replicate n z0).length≤l.length:=by rw[hmin];exact hoff
   have hfit:off*szT F tt+zs.length≤cur.length:=by rw[hzlen,← Nat.add_mul];have:(off+n)*szT F tt≤l.length*szT F tt:=Nat.mul_le_mul_right _ hoff;omega
   have hrun:=GK (P:=P) (w:=w) (ty:=o.type) (n:=n) (cap:=dCap) (q:=off*szT F tt) hu hj hz k2 (by omega) (by rw[← hzsd];exact h1) (by rw[← hzsd];exact hfit)
   rw[← hzsd]at hrun;have hz2:Les te.zero (encT F tt z0):=bG F hz0
   obtain⟨w1,w2⟩:=xQ (B':=.row tt (cpy l off n (List.replicate n z0))) (arr:=cur.take (off*szT F tt)++zs++cur.drop (off*szT F tt+zs.length)) hm hrow rfl k1 k2 (by
    intro hh hle'
    refine .inr ⟨b,cap,_,e',by rw[yg hm1];exact k1,hh,by rw[yg hm1];exact k3,k4,?_,?_⟩
    ·simp only[LR,List.length_take,List.length_drop];omega
    ·intro k d x p q;refine RepI.le hle' ?_;rw[BS hm1]at p
     have hrl:(cells F tt (List.replicate n z0)).length=n*szT F tt:=by rw[ay,List.length_replicate]
     have ht0:(cells F tt (List.replicate n z0)).take (n*szT F tt)=cells F tt (List.replicate n z0):=List.take_of_length_le (by rw[hrl];exact Nat.le_refl _)
     rw[ht0]at p;refine uN (w:=w) (imm:=g.imm) (cs:=cells F tt l) (ds:=cells F tt (List.replicate n z0)) (cur:=cur) (vs:=zs) (q:=off*szT F tt) ?_ hcur k6 ?_ ?_ k d x p q
     ·rw[hrl,ay,← Nat.add_mul];exact Nat.mul_le_mul_right _ hoff
     ·rw[hzlen,hrl]
     ·intro k d x h3 h4
      have hk:k<n*szT F tt:=by rw[← hrl];exact(LQ.1 h3).1
      have hlz:(encT F tt z0).length=te.size:=by rw[aN,hsz]
      have e1:(cells F tt (List.replicate n z0))=(List.replicate n (encT F tt z0)).flatten:=by simp[cells]
      rw[e1,cV _ (by rw[hlz];omega) n k (by rw[hlz,← hsz];exact hk),hlz]at h3
      have hk2:k<n*te.zero.length:=by rw[hzl,← hsz];exact hk
      have hk3:k % te.size<te.zero.length:=by rw[hzl];exact Nat.mod_lt _ (by omega)
      have e2:(List.replicate n te.zero).flatten[k]? = some te.zero[k % te.size]:=by
       rw[cV te.zero (by omega) n k hk2,hzl,LP hk3]
      exact(hmr _ _ k _ x e2 (by rw[← hzm];exact h4)).nle (hz2.2 (k % te.size) _ d (LP hk3) h3))
   intro next Q hn;unfold Oper.wp
   rw[runOf (by rw[hxv];exact hrun)]
   exact hn _ _ g (tup0 _ _) w1 w2 (λid hu _=>hd id hu)
theorem Fq(hT:TblOk P T){t:TypeId}{x:Operand}(ho:o.op = .call { callee:=.builtin .clear,args:=#[x],argTypes:=#[t] }):Rule P o vals mm c K (Dz T vals mm K t):=by
 unfold Dz;split
 ·rename_i e _ _ _ _ _ id sz off n ht;split
  ·exact ad
  ·rename_i te hte;split
   ·rename_i tt l hrow;refine au (λhc=>?_) (λ_=>ad);simp only[Bool.and_eq_true,decide_eq_true_eq,beq_iff_eq]at hc;obtain⟨⟨hsz,rfl⟩,h0⟩:=hc
    have h0:0<te.size:=by
     have:1≤te.size:=by simpa[Nat.blt]using h0
     omega
    split
    ·rename_i z hz;intro r' hr';refine⟨_,hr',?_⟩;intro own g w a m u hle hm hd hall hfr hrep;rw[ho]at hrep
     have h1:=reps1 (by simpa[Op.operands,Call.operands]using hrep)
     refine FK hT hm hd ht rfl hte hsz h0 hz ho (hle _ _ hrow) ?_;rcases nP (aO h1)with⟨hi,rfl,rfl,p,hv⟩ | ⟨b,c',len,q,hi,h5,h6,h7,h8,hv⟩
     ·exact .inl ⟨.inr hi,rfl,rfl,p,hv⟩
     ·obtain⟨rfl,_,_⟩:=bQ hm (hle _ _ hrow) hi;refine .inr ⟨b,q,_,c',hi,hv,h5,?_⟩;rcases h7 with⟨h7,_⟩ | h7
      ·left;omega
      ·right;rw[h7,hsz]
    ·exact ad
   ·exact ad
 ·exact ad
theorem GT(hT:TblOk P T){t:TypeId}{x:Operand}{lo hi:Option Operand}(ho:o.op = .slice t x lo hi none){bb:Bool}(hc:(bb&&lo.isNone)=true):Rule P o vals mm c K (tHead T vals mm c K t (ob hi 1)):=by
 have hlo:lo=none:=by cases lo with | none=>rfl | some _=>simp at hc
 subst hlo;clear hc;unfold tHead;split
 ·rename_i e _ _ _ _ _ id rest ht;split
  ·exact ad
  ·rename_i te hte;split
   ·rename_i tt l hrow;refine au (λhsz=>?_) (λ_=>ad);split
    ·rename_i q hq;refine ax λpr hr=>?_;intro r' hr';refine⟨_,hr',?_⟩;intro own g w a m u hle hm hd hall hfr hrep;obtain⟨c1,c2,c3,rfl⟩:=Gr hr
     have hops:o.op.operands.toList.map a.eval=a.eval x::(hi.map a.eval).toList:=by
      rw[ho]
      cases hi<;>simp[Op.operands]
     rw[hops]at hrep;have hx0:=hrep.2 0 _ (a.eval x) rfl rfl
     have hhi:(hi.map a.eval=none∧q=l.length)∨∃k,hi.map a.eval=some (.int k q):=by
      cases hi with
      | none=>simp only[ob,bound,Option.some.injEq]at hq;exact .inl ⟨rfl,hq.symm⟩
      | some y=>
       simp only[ob,bound]at hq;split at hq
       ·rename_i k n' hq';cases hq
        have:=hrep.2 1 _ (a.eval y) hq' (by simp)
        exact .inr ⟨k,by rw[Option.map_some,bE this]⟩
       ·cases hq
     have run:∀{ptr:Option Addr}{cap:Nat},a.eval x = .slice ptr l.length cap→l.length≤cap→
       (execOp a.eval o).run P w = .ok (.value (.slice (if cap=0 then ptr else ptr.map (·.add 0)) q.toNat cap)) w:=by
      intro ptr cap e1 h5;have hu:=hT.und _ _ ht
      have hr:=lV (P:=P) (w:=w) true l.length cap none (hi.map a.eval) 0 q (.inl ⟨rfl,rfl⟩) hhi (by omega) c2 (by omega)
      simp only[execOp,ho,Instr.sliceAt,Instr.slice,Sem.run_bind,run_underlying hu,Result.andThen_ok,e1,Option.map_none];rw[hr];simp only[Result.andThen_ok,bi hT hte,Sem.run_pure];simp
     have hfid:g.ids c=none:=hd c (hfr 0 (by simp))
     have htk:(l.take (q.toNat - (0:Int).toNat)).length=q.toNat:=by rw[List.length_take];simp;omega
     have fin:∀{v:Value}{pl:Pl},(execOp a.eval o).run P w = .ok (.value v) w→
       (MemOk own (g.name c pl) w (updM m ([id].map (λr=>(r,none))++[(c,some (.row tt (l.take (q.toNat - (0:Int).toNat))))]))∧Stp m g w (g.name c pl) w)→RepC (F:=F) (g.name c pl) w (.wsl c) v→
       Outc P own m u g w o a c { val:=.c (.wsl c),mw:=[(id,none),(c,some (.row tt (l.take (q.toNat - (0:Int).toNat))))],nu:=1 }:=by
      intro v pl hrun hst hv next Q hn;unfold Oper.wp;rw[hrun];refine hn _ _ _ (.c hv) hst.1 hst.2 ?_;intro y hy hcy
      have:y≠c:=by have hcy:y<c∨c+1≤y:=hcy;omega
      rw[bw _ _ _ this];exact hd y hy
     have hB:=hle _ _ hrow;rcases aU (aO hx0)with⟨hid,ptr,ev⟩ | ⟨b,c',len,hid,h5,h6,ev⟩
     ·rcases hm.ok id _ hB with⟨_,rfl⟩ | ⟨_,_,_,_,k1,_⟩
      ·simp only[List.length_nil]at c3 hq
       have hq0:q=0:=by omega
       subst hq0
       refine fin (pl:=none) (run (by simpa using ev) (Nat.le_refl _)) (gz hm hfid (λ_ _ h=>by cases h) rfl rfl rfl (Nat.le_refl _) (Nat.le_refl _) (λ_ _ _=>rfl) (λg' _ hi=>.inl ⟨hi,by simp⟩)) ?_
       exact .wsl0 _ (aT _ _ _)
      ·rw[hid]at k1;cases k1
     ·rcases hm.ok id _ hB with⟨k1,_⟩ | ⟨b',cap2,cur,e',k1,k2,k3,k4,k5,k6⟩
      ·rw[k1]at hid;cases hid
      rw[k1]at hid;cases hid;refine fin (pl:=some (b,c',q.toNat,[])) (run ev k3) (gz (rm:=[id]) hm hfid ?_ rfl rfl rfl (Nat.le_refl _) (Nat.le_refl _) (λ_ _ _=>rfl) ?_) ?_
      ·intro b0 c0 e0 b1 hb1;cases e0;simp only[nbl,LS]at hb1;subst hb1
       exact .inr ⟨id,by simp,_,hB,rfl,G.blk_main k1⟩
      ·intro g' hle' hi
       refine .inr ⟨b,c',cur,e',by rw[htk];exact hi,k2,by rw[htk];omega,k4,k5,?_⟩
       intro k d x h1 h2
       have h1':(cells F tt l)[k]? = some d:=by
        have:=fb (F:=F) (l:=l) (a:=0) (n:=q.toNat - (0:Int).toNat);simp only[Fx.sub,List.drop_zero,Nat.zero_mul]at this;rw[this,List.getElem?_take]at h1;split at h1
        ·exact h1
        ·cases h1
       exact(k6 k d x h1' h2).mono hle'.imm hle'.heap
      ·have e:(if c'=0 then(some ⟨b,0,none⟩:Option Addr)else(some ⟨b,0,none⟩:Option Addr).map (·.add 0))=some ⟨b,0,none⟩:=by
        split
        ·rfl
        ·rfl
       rw[e]
       exact .wsl (n:=(q.toNat,[])) (aT _ _ _) (by dsimp only;omega) k4
    ·exact ad
   ·exact ad
 ·exact ad
end
end Go.Fx
