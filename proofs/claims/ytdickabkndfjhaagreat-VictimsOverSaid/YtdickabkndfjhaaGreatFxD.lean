/-
  The framework, fourth part: bounded rounds, deletion from slices, ranges over functions. Conditions: none.
-/
import Derived.Test.YtdickabkndfjhaaGreatFxC
import Derived.Shelf.Sort.Plain
import Derived.Shelf.Slices.In.SortNone
import Derived.Shelf.SlicesE.Kit
import Derived.Shelf.RegionOpenPlain
import Derived.Deep.LoopGhost
import Derived.Deep.RegionLaw
import Derived.Lib.Walk
import Derived.Sort.WalkB12
import Derived.Lib.SlicesDelete
import Derived.RangeFuncLeaves
import Derived.RangeFuncRecord
import Derived.RangeFuncIn
import Derived.RangeFuncSeq
namespace Go.Fx
open Go Go.Shelf
set_option linter.unusedVariables false
set_option linter.unusedSimpArgs false
section
variable{F:Fam}{P:Program}
section
variable{α : Type}[Inhabited α]{enc:α→Value}{w:World}{b off m:Nat}{dk:Array α}{os:Array Obj}
theorem w_:w.heap.size≤(Sort.grow (Sort.putRow enc (Sort.ahead w m) b off dk) os).heap.size:=by simp[Sort.grow,Sort.putRow,Sort.mapBlock,Sort.ahead]
theorem It{b':Nat}(hne:b'≠b)(hlt:b'<w.heap.size):(Sort.grow (Sort.putRow enc (Sort.ahead w m) b off dk) os).heap[b']? = w.heap[b']?:=by
 simp only[Sort.grow,Sort.putRow,Sort.mapBlock,Sort.ahead]
 rw[QfA (by simpa using hlt),Array.getElem?_modify,if_neg (λe=>hne e.symm)]
theorem Jq{c:Array Value}{e:TypeId}{fr:Nat×Nat}(h:w.heap[b]? = some (.cells c e fr)):(Sort.grow (Sort.putRow enc (Sort.ahead w m) b off dk) os).heap[b]? = some (.cells (Sort.putCells enc off dk c) e fr):=by
 have hlt:b<w.heap.size:=(Wj.1 h).1;simp only[Sort.grow,Sort.putRow,Sort.mapBlock,Sort.ahead]
 rw[QfA (by simpa using hlt),Array.getElem?_modify,if_pos rfl,h]
 rfl
end
def UK(l:List Int):Option (List Int):=if l≠[]∧l.length<4611686018427387904 then some (l.mergeSort λx y=>decide (x≤y))else none
theorem HB{ρ : Ren}(L:Proofs.Lays.n189 P ρ)(hent:jo P (ρ.f 189)) :
  O6 (F:=F) P (ρ.f 189) ⟨[.row (.int .i64) false],[],λa=>UK a.1⟩:=by
 refine⟨hent,?_⟩;intro a r hr Li w vs LJ Me Oq hpl MQ;obtain⟨l,u⟩:=a;obtain⟨v,vs',p1,p2,b1,b2,rfl,rfl,rfl,⟨pl,rfl,rfl,hrow,hv⟩,rfl,rfl,rfl⟩:=Oq;dsimp only at hr;unfold UK at hr;split at hr
 rotate_left
 ·cases hr
 rename_i hc;obtain⟨hne,hlen⟩:=hc;have hr':r=(l.mergeSort λx y=>decide (x≤y):List Int):=(Option.some.inj hr).symm;clear hr;subst hr';have hv:Ol pl v:=hv
 cases pl with
 | none=>exact absurd hrow hne
 | some q=>
 obtain⟨b,cap,n'⟩:=q;obtain⟨rfl,hle,hmx,cur,e,hb,hcl,hcr⟩:=hrow;cases hv;have hblk:b<w.heap.size:=(Wj.1 hb).1
 have hcl':cur.length=cap:=by rw[hcl];simp[LY]
 have ZJ:∀(s:List Int)(j:Nat)(d:ND F),(cells F (.int .i64) s)[j]? = some d→∃x,s[j]? = some x∧d = .i .i64 x:=by
  intro s j d hd
  have:cells F (.int .i64) s=s.map λx=>(.i .i64 x:ND F):=by
   clear hd;unfold cells
   induction s with
   | nil=>rfl
   | cons x s ih=>simp[LZ]at *;exact ih
  rw[this,Rf]at hd;obtain⟨x,h1,h2⟩:=Wi.1 hd;exact⟨x,h1,h2.symm⟩
 have hH:Sort.Holds (Value.int .i64) w b 0 (List.toArray l:Array Int):=by
  intro j hj
  have hj':j<List.length l:=by simpa using hj
  have hle':List.length l≤cap:=hle
  have hjc:j<cur.length:=by rw[hcl'];omega
  have hjl:j<(cells F (.int .i64) l).length:=by rw[aH];simpa[LY]using hj'
  have q3:=hcr j _ _ (K9 hjl) (K9 hjc);obtain⟨x,h1,h2⟩:=ZJ l j _ (K9 hjl);rw[h2]at q3
  have q4:cur[j] = .int .i64 x:=by generalize cur[j]=z at q3;cases q3;rfl
  refine⟨?_,?_⟩
  ·simp only[World.cell?,hb,OW]
   have:(List.toArray l:Array Int)[j]! = x:=by rw[getElem!_def];simp[h1]
   rw[this,← q4];simp[hjc]
  ·simp[World.frozen?,hb]
 refine(Proofs.Any.slices_Sort_int L b 0 cap l w hH hblk hlen).mono ?_;rintro e' w' ⟨rfl,m,os,rfl⟩;have hsl:(l.mergeSort λx y=>decide (x≤y):List Int).length=List.length l:=List.length_mergeSort _;generalize(l.mergeSort λx y=>decide (x≤y):List Int)=s at *;refine⟨[],Li,[],rfl,rfl,rfl,rfl,?_,w_,?_,λ_ h=>h,λ_ h=>.inl h,λb' hb'=>UG (MQ b' hb') w_,⟨some (b,cap,List.length l,[]),rfl,rfl,?_,rfl⟩,⟨?_,?_,?_⟩,?_⟩
 ·simp[Sort.grow,Sort.putRow,Sort.mapBlock,Sort.ahead]
 ·intro b' hlt hno
  exact It (λe=>hno (by simp[aM,Lh,MO,e])) hlt
 ·refine⟨by rw[hsl],by rw[hsl];exact hle,hmx,(Sort.putCells (Value.int .i64) 0 (List.toArray s:Array Int) ⟨cur⟩).toList,e,Jq hb,?_,?_⟩
  ·simp[Sort.putCells,hcl]
  ·intro j d x hd hx;obtain⟨y,h1,rfl⟩:=ZJ s j d hd;have hjs:j<s.length:=(K_.1 h1).1;simp only[Sort.putCells,Array.toList_mapIdx,List.getElem?_mapIdx]at hx
   cases hcj:cur[j]? with
   | none=>simp[hcj]at hx
   | some z=>
    simp only[hcj,Xy,NJ,Yx,true_and,OW,Nat.sub_zero]at hx
    rw[if_pos (by simpa using hjs)]at hx
    have:(List.toArray s:Array Int)[j]! = y:=by rw[getElem!_def];simp[h1]
    rw[this]at hx;subst hx;exact .i _ _
 ·simp[aM,Lh,MO]
 ·intro b' hb'
  exact hpl.Li b' (by simpa[aM,Lh,MO]using hb')
 ·intro b' hb'
  exact UG (hpl.lt b' (by simpa[aM,Lh,MO]using hb')) w_
 ·intro b' hb'
  exact .inl (by simpa[aM,Lh,MO]using hb')
def VL(l:List Int):Option (List Int):=cond l.isEmpty (some []) (UK l)
theorem HF{f:FuncId}(h:O6 (F:=F) P f ⟨[.row (.int .i64) false],[],λa=>UK a.1⟩)
  (hw:∀(p:Option Addr)(cap:Nat)(w:World),Calls P f #[.slice p 0 cap] w λe w'=>e = .returned (.tuple #[])∧RowKit.Below w.heap.size w w'∧w.drawn≤w'.drawn) :
  O6 (F:=F) P f ⟨[.row (.int .i64) false],[],λa=>VL a.1⟩:=by
 refine⟨h.1,?_⟩;intro a r hr Li w vs LJ Me Oq hpl MQ;obtain⟨l,u⟩:=a;dsimp only at hr;unfold VL at hr
 cases he:List.isEmpty l with
 | false=>rw[he,cond_false]at hr;exact h.2 (l,u) r hr Li w vs LJ Me Oq hpl MQ
 | true=>
  rw[he,cond_true]at hr;have hl:l = []:=QgE.1 he;subst hl;have hr':r=([]:List Int):=(Option.some.inj hr).symm;clear hr he;subst hr';obtain⟨v,vs',p1,p2,b1,b2,rfl,rfl,rfl,⟨pl,rfl,rfl,hrow,hv⟩,rfl,rfl,rfl⟩:=Oq;have hv:Ol pl v:=hv
  obtain⟨p,cap,rfl⟩:∃p cap,v = .slice p 0 cap:=by
   cases pl with
   | none=>obtain⟨p,rfl⟩:=hv;exact⟨p,0,rfl⟩
   | some q=>obtain⟨b,cap,n⟩:=q;obtain⟨hn,_⟩:=hrow;cases hv;rw[hn];exact⟨_,_,rfl⟩
  refine(hw p cap w).mono ?_;rintro e w' ⟨rfl,hb,hd⟩;have hown:∀b∈Lh ([pl]++[]),b<w.heap.size:=hpl.lt
  refine⟨[],Li,[],rfl,hb.os,hb.tape,hb.output,hd,hb.size,λb hlt _=>hb.block b hlt,λ_ h=>h,λ_ h=>.inl h,λb hb'=>UG (MQ b hb') hb.size,⟨pl,rfl,rfl,?_,rfl⟩,⟨by simpa[Lh]using hpl.nodup,λb hb'=>hpl.Li b (by simpa[Lh]using hb'),λb hb'=>UG (hpl.lt b (by simpa[Lh]using hb')) hb.size⟩,λb hb'=>.inl (by simpa[Lh]using hb')⟩
  refine OG.O_ (λ_ h=>h) (λb hb'=>hb.block b (MQ b hb')) (λb c e=>hb.block b (hown b ?_)) hrow;subst e;simp[Lh]
theorem F2{ρ : Ren}(L:Proofs.Lays.n189 P ρ)(hent:jo P (ρ.f 189)):O6 (F:=F) P (ρ.f 189) ⟨[.row (.int .i64) false],[],λa=>VL a.1⟩:=
 HF (HB L hent) λp cap w=>(Proofs.Any.slices_Sort_int_none L p cap w).mono (by rintro e w' ⟨rfl,rfl⟩;exact⟨rfl,.refl _ _,MN _⟩)
end
set_option linter.unusedVariables false
structure Lo{α : Type}(a b:Option α):Prop where
 ok:∀r,a=some r→b=some r
end Go.Fx
namespace Go.Fx
open Go Go.Proofs Go.RowKit
set_option linter.unusedVariables false
set_option linter.unusedSimpArgs false
def del{α : Type}(l:List α)(i j:Int):Option (List α):=if 0≤i∧i≤j∧j≤l.length then some (l.take i.toNat++l.drop j.toNat)else none
def wP(P:Program)(f:FuncId)(ts e sz:Nat):Prop:=
 ∀(b n cap i j:Nat)(w:World),n≤cap→cap≤9223372036854775807→i<j→j≤n→∀(i0:TypeInfo),P.info? e=some i0→i0.size=sz→∀(A:Addr),(if cap=j then some (⟨b,0,none⟩:Addr)else some ⟨b,j*sz,none⟩)=some A→∀(news:List Value),
  Hid (news.length=(n - j)*sz)→Hid (∀t u,news[t]? = some u→w.drew.cell? (A.add t)=some u)→Hid (∀u∈news,u.oneCell'=true)→
  Hid (∀t,t<news.length→(w.drew.cell? ⟨b,0+i*sz+t,none⟩).isSome=true∧w.drew.frozen? ⟨b,0+i*sz+t,none⟩=false)→
  ∀(W1 W2:World),Hid (W1=w.drew.setCells b (0+i*sz) news)→
  (∀ty,(Builtin.clear_ #[ts] ty #[.slice (some ⟨b,(i+(n - j))*sz,none⟩) (n - (i+(n - j))) (cap - (i+(n - j)))]).run P W1 = .ok (.tuple #[]) W2)→
  Calls P f #[.slice (some ⟨b,0,none⟩) n cap,.int .i64 i,.int .i64 j] w λe w'=>e = .returned (.slice (some ⟨b,0,none⟩) (i+(n - j)) cap)∧w'=W2
def xA(P:Program)(f:FuncId):Prop:=
 (∀(b n cap i:Nat)(w:World),n≤cap→i≤n→Calls P f #[.slice (some ⟨b,0,none⟩) n cap,.int .i64 i,.int .i64 i] w λe w'=>e = .returned (.slice (some ⟨b,0,none⟩) n cap)∧w'=w)∧
 ∀(p:Option Addr)(w:World),Calls P f #[.slice p 0 0,.int .i64 0,.int .i64 0] w λe w'=>e = .returned (.slice p 0 0)∧w'=w
section
variable{F:Fam}{P:Program}{T:TypeId→Option (TI F)}
theorem za{w:World}{b o:Nat}{cur vs:List Value}{t:TypeId}(hb:w.heap[b]? = some (.cells ⟨cur⟩ t (0,0)))(hl:o+vs.length≤cur.length)(h1:∀v∈vs,v.oneCell'=true) :
  w.setCells b o vs=w.setRow b (cur.take o++vs++cur.drop (o+vs.length)).toArray:=by
 have r1:=run_storeCells_at (default:Program) b o t vs 0 ⟨cur⟩ w hb (by simpa using hl) h1
 have r2:=run_storeCells_cells (P:=(default:Program)) b o vs 0 w (by
  intro j hj;simp only[World.cell?,hb,Vm];simp
  omega) (by
  intro j hj;simp[World.frozen?,hb]) h1
 rw[r1]at r2;simp only[Vm]at r2
 injection r2 with _ h
 exact h.symm
theorem Ex(hT:Mc P T){f ts e sz:Nat}{t:Ty}{te:TI F}(hte:T e=some te)(V_:te.ty=some t)(hsz:te.size=sz)(h0:0<sz)(hts:P.underlying ts=some (.slice e))(hent:jo P f)(wn:xA P f)(wb:wP P f ts e sz)(hmp:t.Ny=false:=by rfl) :
  O6 (F:=F) P f ⟨[.v (.slice t) [0],.v (.int .i64) [],.v (.int .i64) []],[.v (.slice t) [0]],λa=>del a.1 a.2.1 a.2.2.1⟩:=by
 refine⟨hent,?_⟩;intro a r hr Li w vs LJ Me Oq hpl MQ;obtain⟨l,i,j,u⟩:=a;have hr:del l i j=some r:=hr;unfold del at hr;split at hr
 rotate_left
 ·cases hr
 rename_i hc;have c1:(0:Int)≤i:=hc.1;have c2:(i:Int)≤j:=hc.2.1;have c3:(j:Int)≤((List.length l:Nat):Int):=hc.2.2;have c4:(0:Int)≤j:=QgR c1 c2;have hr':r=l.take i.toNat++l.drop j.toNat:=(Option.some.inj hr).symm;clear hr;obtain⟨i',rfl⟩:∃i':Nat,i=i':=⟨Int.toNat i,(QgK c1).symm⟩;obtain⟨j',rfl⟩:∃j':Nat,j=j':=⟨Int.toNat j,(QgK c4).symm⟩;simp only[Tz]at hr';obtain⟨v,vs',p1,p2,b1,b2,rfl,rfl,rfl,⟨h1,rfl⟩,v2,vs2,p3,p4,b3,b4,rfl,rfl,rfl,⟨h2,rfl⟩,v3,vs3,p5,p6,b5,b6,rfl,rfl,rfl,⟨h3,rfl⟩,rfl,rfl,rfl⟩:=Oq;unfold NH at h1 h2 h3;simp only[Ty.OP,RZ,if_false,LZ,MG,Mf,Nat.beq,if_true]at h1 h2 h3;obtain⟨pl,rest,rfl,hrow,hv,rfl⟩:=h1;rw[nj hmp]at hrow;rw[pD hmp]at hv;obtain⟨h2,rfl⟩:=h2;obtain⟨h3,rfl⟩:=h3;cases h2;cases h3;have ei:(⟨[v,.int .i64 (i':Int),.int .i64 (j':Int)]⟩:Array Value) = #[v,.int .i64 (i':Int),.int .i64 (j':Int)]:=rfl
 have held:∀(w':World)(WT:Pl)(v':Value),da w' Li t r WT→Ol WT v'→eE P w' Li (outs ⟨[.v (.slice t) [0],.v (.int .i64) [],.v (.int .i64) []],[.v (.slice t) [0]],λa=>del a.1 a.2.1 a.2.2.1⟩) r [v'] [] [WT]:=by intro w' WT v' k1 k2;refine⟨v',rfl,rfl,?_,rfl⟩;unfold NH;simp only[Ty.OP,RZ,if_false,LZ,MG,Mf,Nat.beq,if_true];exact⟨WT,[],rfl,Eq.mpr (nj hmp) k1,Eq.mpr (pD hmp) k2,rfl⟩
 by_cases hij:i'=j'
 ·subst hij
  have hrl:r=l:=by rw[hr',X0]
  have hcall:∃p n cap,v = .slice p n cap∧Calls P f #[.slice p n cap,.int .i64 i',.int .i64 i'] w λe w'=>e = .returned (.slice p n cap)∧w'=w:=by
   cases pl with
   | none=>
    obtain⟨p,rfl⟩:=hv
    have hl0:l.length=0:=by rw[hrow];rfl
    have hi0:i'=0:=by omega
    subst hi0;exact⟨p,0,0,rfl,wn.2 p w⟩
   | some q=>
    obtain⟨b,cap,n⟩:=q;obtain⟨rfl,hle,_⟩:=hrow;cases hv
    exact⟨_,_,_,rfl,wn.1 b _ cap i' w hle (by omega)⟩
  obtain⟨p,n,cap,rfl,hc⟩:=hcall;refine hc.mono ?_;rintro e' w' ⟨rfl,rfl⟩
  refine⟨[.slice p n cap],Li,[pl],rfl,rfl,rfl,rfl,MN _,MN _,λ_ _ _=>rfl,λ_ h=>h,λ_ h=>.inl h,MQ,held _ _ _ (by rw[hrl];exact hrow) hv,by simpa[aM,Lh,MO]using hpl,by intro b hb;exact .inl (by simpa[aM,Lh,MO]using hb)⟩
 ·have hlt:i'<j':=by omega
  cases pl with
  | none=>
   have:l.length=0:=by rw[hrow];rfl
   omega
  | some q=>
  obtain⟨b,cap,n⟩:=q;obtain⟨rfl,hle,hmx,cur,e0,hb,hcl,hcr⟩:=hrow;cases hv
  have X9:LY F t=sz:=by rw[← hsz];exact hT.ty e te t hte V_
  rw[X9]at hcl;have hblk:b<w.heap.size:=(Wj.1 hb).1;obtain⟨i0,hi0,hs,_,z,hz,hzs,hzl,hzr⟩:=hT.info e te hte
  have hs':i0.size=sz:=by rw[hs,hsz]
  have hdb:w.drew.heap[b]? = some (.cells ⟨cur⟩ e0 (0,0)):=hb
  have hjl:j'≤l.length:=by omega
  have hcells:(cells F t l).length=l.length*sz:=by rw[aH,X9]
  have one:∀k x,k<l.length*sz→cur[k]? = some x→x.oneCell'=true:=by
   intro k x hk hx
   exact(hcr k _ x (K9 (by rw[hcells];exact hk)) hx).oneCell
  have hcapsz:l.length*sz≤cap*sz:=Rp _ hle;have hjsz:j'*sz≤l.length*sz:=Rp _ hjl
  have hisz:i'*sz≤j'*sz:=Rp _ (by omega)
  have hsub:(l.length - j')*sz=l.length*sz - j'*sz:=Nat.sub_mul _ _ _;have hsum:(i'+(l.length - j'))*sz=i'*sz+(l.length - j')*sz:=Uk _ _ _
  have htl:(l.length - (i'+(l.length - j')))*sz=j'*sz - i'*sz:=by rw[show l.length - (i'+(l.length - j'))=j' - i' by omega,Nat.sub_mul]
  obtain⟨news,hnews⟩:∃news,news=(cur.drop (j'*sz)).take ((l.length - j')*sz):=⟨_,rfl⟩
  have nl:news.length=(l.length - j')*sz:=by rw[hnews,Oy,Ro,hcl];omega
  have aao:∀k x,news[k]? = some x→cur[j'*sz+k]? = some x∧k<(l.length - j')*sz:=by intro k x hk;have hlt':=(K_.1 hk).1;rw[nl]at hlt';rw[hnews,RG,if_pos hlt',SY]at hk;exact⟨hk,hlt'⟩
  have n1:∀x∈news,x.oneCell'=true:=by
   intro x hx;obtain⟨k,hk⟩:=XT hx;obtain⟨q1,q2⟩:=aao k x hk
   exact one _ x (by omega) q1
  obtain⟨A,hA,hsrc⟩:∃A:Addr,(if cap=j' then some (⟨b,0,none⟩:Addr)else some ⟨b,j'*sz,none⟩)=some A∧(∀k x,news[k]? = some x→w.drew.cell? (A.add k)=some x):=by
   by_cases h:cap=j'
   ·refine⟨⟨b,0,none⟩,by simp[h],λk x hk=>?_⟩
    have:=(aao k x hk).2
    rw[show l.length - j'=0 by omega]at this
    omega
   ·refine⟨⟨b,j'*sz,none⟩,by simp[h],λk x hk=>?_⟩
    rw[Addr.add_lit];simp only[World.cell?,hdb];simpa using(aao k x hk).1
  have w1e:w.drew.setCells b (0+i'*sz) news=w.drew.setRow b (cur.take (0+i'*sz)++news++cur.drop (0+i'*sz+news.length)).toArray:=za hdb (by rw[nl,hcl];omega) n1
  have hb1:(w.drew.setRow b (cur.take (0+i'*sz)++news++cur.drop (0+i'*sz+news.length)).toArray).heap[b]? = some (.cells ⟨cur.take (0+i'*sz)++news++cur.drop (0+i'*sz+news.length)⟩ e0 (0,0)):=setRow_heap w.drew b _ _ e0 _ hdb;obtain⟨U2,hc1⟩:∃U2,U2=cur.take (0+i'*sz)++news++cur.drop (0+i'*sz+news.length):=⟨_,rfl⟩;rw[← hc1]at w1e hb1
  have ZC:U2.length=cap*sz:=by rw[hc1];simp only[La,Oy,Ro,nl,hcl];omega
  obtain⟨zs,VE⟩:∃zs,zs=(Builtin.zeroCells z.cells (l.length - (i'+(l.length - j')))).toList:=⟨_,rfl⟩
  have zl:zs.length=j'*sz - i'*sz:=by rw[VE,Wt,size_zeroCells,hzs,hsz,htl]
  have z1:∀x∈zs,x.oneCell'=true:=by
   intro x hx
   have hzc:∀y∈z.cells.toList,y.oneCell'=true:=by
    intro y hy;obtain⟨k,hk⟩:=XT hy
    have hkl:k<te.zero.length:=by have:=(K_.1 hk).1;rw[hzl,← hzs];simpa using this
    exact(hzr w Li k _ y (K9 hkl) (by simpa using hk)).oneCell
   rw[VE]at hx;obtain⟨k,hk⟩:=XT hx;have hk2:=(K_.1 hk);obtain⟨hk3,hk4⟩:=hk2;simp only[Builtin.zeroCells]at hk4;simp at hk4;rw[← hk4]
   have hpos:0<z.cells.size:=by rw[hzs,hsz];exact h0
   have hlt3:k % z.cells.size<z.cells.size:=Nat.mod_lt _ hpos;rw[getElem!_pos z.cells _ hlt3]
   exact hzc _ (by simp)
  obtain⟨R,hR⟩:∃R,R=U2.take ((i'+(l.length - j'))*sz)++zs++U2.drop ((i'+(l.length - j'))*sz+zs.length):=⟨_,rfl⟩
  have hW2:∀(W1:World),W1.heap[b]? = some (.cells ⟨U2⟩ e0 (0,0))→∀ty,(Builtin.clear_ #[ts] ty #[.slice (some ⟨b,(i'+(l.length - j'))*sz,none⟩) (l.length - (i'+(l.length - j'))) (cap - (i'+(l.length - j')))]).run P W1 =
    .ok (.tuple #[]) (W1.setRow b R.toArray):=by
   intro W1 hb1' ty
   have hst:=run_storeCells_at P b ((i'+(l.length - j'))*sz) e0 zs 0 ⟨U2⟩ W1 hb1' (by rw[zl,hsum];show _≤U2.length;rw[ZC];omega) z1
   simp only[Vm]at hst;rw[← hR]at hst;clear hR
   obtain⟨m,hm⟩:∃m,l.length - (i'+(l.length - j'))=m+1:=⟨l.length - (i'+(l.length - j')) - 1,by omega⟩
   rw[VE,hm]at hst;rw[hm];simp[Builtin.clear_,run_underlying hts,zeroValue,typeInfo,hi0,hz,hst]
  have key:=wb b l.length cap i' j' w hle (by simp only[maxLen]at hmx;omega) hlt hjl i0 hi0 hs' A hA news nl hsrc n1 (λk hk=>by
   rw[nl]at hk;refine⟨?_,?_⟩
   ·simp only[World.cell?,hdb];simp;rw[hcl];omega
   ·simp[World.frozen?,hdb]) _ _ rfl (hW2 _ (by rw[w1e];exact hb1))
  refine key.mono ?_;rintro e' w' ⟨rfl,rfl⟩;rw[w1e]
  have rlen:r.length=i'+(l.length - j'):=by rw[hr',La,Oy,Ro];omega
  have apB:((w.drew.setRow b U2.toArray).setRow b R.toArray).heap[b]? = some (.cells ⟨R⟩ e0 (0,0)):=setRow_heap _ b _ _ e0 _ hb1
  refine⟨[.slice (some ⟨b,0,none⟩) (i'+(l.length - j')) cap],Li,[some (b,cap,r.length,[])],rfl,rfl,rfl,rfl,QfU _,?_,?_,λ_ h=>h,λ_ h=>.inl h,?_,held _ _ _ ⟨rfl,by rw[rlen];omega,hmx,_,e0,apB,?_,?_⟩ ?_,⟨?_,?_,?_⟩,?_⟩
  ·have z1:(w.drew.setRow b U2.toArray).heap.size=w.heap.size:=by simp[World.setRow]
   have z2:((w.drew.setRow b U2.toArray).setRow b R.toArray).heap.size=(w.drew.setRow b U2.toArray).heap.size:=by simp[World.setRow]
   rw[z2,z1];exact MN _
  ·intro b' hlt' hno
   have hne:b'≠b:=λh=>hno (by simp[aM,Lh,MO,h])
   rw[setRow_other _ b b' _ hne,setRow_other _ b b' _ hne];rfl
  ·intro b' hb'
   have z1:(w.drew.setRow b U2.toArray).heap.size=w.heap.size:=by simp[World.setRow]
   have z2:((w.drew.setRow b U2.toArray).setRow b R.toArray).heap.size=(w.drew.setRow b U2.toArray).heap.size:=by simp[World.setRow]
   rw[z2,z1];exact MQ b' hb'
  ·rw[hR,X9];simp only[La,Oy,Ro,zl,ZC];rw[hsum,hsub];omega
  ·intro k d x hd hx
   have hd:(cells F t (l.take i'++l.drop j'))[k]? = some d:=by rw[← hr'];exact hd
   rw[hR]at hx
   have aiw:(List.take i' l++List.drop j' l).length=i'+(l.length - j'):=by rw[← hr'];exact rlen
   have hkr:k<(i'+(l.length - j'))*sz:=by
    have:=(K_.1 hd).1
    rwa [aH,X9,aiw]at this
   rw[hsum,hsub]at hkr
   rw[P5,Rv (by rw[Oy,ZC,hsum,hsub];omega),RG,if_pos (by rw[hsum,hsub];omega),hc1]at hx
   have mono:L_ w Li d x→L_ ((w.drew.setRow b U2.toArray).setRow b R.toArray) Li d x:=λh=>h.mono (λ_ h=>h) (λb' hb'=>by
    have hne:b'≠b:=λe=>hpl.Li b (by simp[aM,Lh,MO]) (e▸hb')
    rw[setRow_other _ b b' _ hne,setRow_other _ b b' _ hne];rfl)
   apply mono
   have ct:cells F t (l.take i')=(cells F t l).take (i'*sz):=by have:=mu (F:=F) (l:=l) (a:=0) (n:=i');rw[X9]at this;simpa[Fx.sub]using this
   have cd:cells F t (l.drop j')=(cells F t l).drop (j'*sz):=by
    have:=mu (F:=F) (l:=l) (a:=j') (n:=l.length);unfold Fx.sub at this
    rw[Wv (by simp),X9]at this
    rw[this,Wv];rw[Ro,hcells];omega
   rw[kY,ct,cd]at hd;by_cases hki:k<i'*sz
   ·rw[Rv (by rw[Oy,hcells];omega),RG,if_pos hki]at hd
    rw[P5,Rv (by rw[Oy,hcl];omega),RG,if_pos (by omega)]at hx
    exact hcr k d x hd hx
   ·rw[RF (by rw[Oy,hcells];omega),Oy,hcells,QfR (by omega),SY]at hd
    rw[P5,RF (by rw[Oy,hcl];omega),Oy,hcl,QfR (by omega),Rv (by rw[nl,hsub];omega)]at hx
    have q:=(aao _ x hx).1;rw[OW]at q;exact hcr _ d x hd q
  ·rw[rlen];rfl
  ·simp[Lh,MO]
  ·intro b' hb'
   exact hpl.Li b' (by simpa[aM,Lh,MO]using hb')
  ·intro b' hb'
   have:b'=b:=by simpa[aM,Lh,MO]using hb'
   subst this
   have z1:(w.drew.setRow b' U2.toArray).heap.size=w.heap.size:=by simp[World.setRow]
   have z2:((w.drew.setRow b' U2.toArray).setRow b' R.toArray).heap.size=(w.drew.setRow b' U2.toArray).heap.size:=by simp[World.setRow]
   rw[z2,z1];exact hblk
  ·intro b' hb'
   exact .inl (by simpa[aM,Lh,MO]using hb')
end
set_option linter.unusedVariables false
set_option linter.unusedSimpArgs false
structure EmC where
 PX:Array Oper
 OZ:Array Oper
 YJ:Array Oper
 t:Nat
def r8{α : Type}:List α→Option (List α×α)
 | []=>none
 | [a]=>some ([],a)
 | a::b::l=>match r8 (b::l)with
  | none=>none
  | some (p,x)=>some (a::p,x)
theorem uY{α : Type}:∀{l p:List α}{a:α},r8 l=some (p,a)→l=p++[a]
 | [],_,_,h=>by cases h
 | [x],_,_,h=>by cases h;rfl
 | x::y::l,p,a,h=>by
  simp only[r8]at h;split at h
  ·cases h
  ·rename_i p' x' hq;cases h;rw[uY hq];rfl
structure EmB where
 t:Nat
 f:Nat
 x:Nat
def Aa:Oper→Option EmB
 | ⟨some t,.call ⟨.value (.func f),⟨[.tmp x]⟩,_⟩,_,_,_,none⟩=>some ⟨t,f,x⟩
 | _=>none
theorem DT{o:Oper}{q:EmB}(h:Aa o=some q):o.dst=some q.t∧o.guard=none∧∃ats,o.op = .call { callee:=.value (.func q.f),args:=#[.tmp q.x],argTypes:=ats }:=by
 unfold Aa at h;split at h
 ·cases h;exact⟨rfl,rfl,_,rfl⟩
 ·cases h
section
variable{F:Fam}(T:TypeId→Option (TI F))(Γ : Ctx F)(nv:Nat)
end
section
variable{P:Program}{ops:Array Oper}
theorem yF{Q:Exit→Act→World→Prop}(l2:List Nat):∀(l1:List Nat){a:Act}{w:World},wpOps P ops (Exit.then (wpOps P ops Q l2) Q) l1 a w→wpOps P ops Q (l1++l2) a w
 | [],a,w,h=>h
 | i::l1,a,w,h=>by
  simp only[UF];rw[wpOps_cons]at h ⊢;have h:=wpOp_mono (K':=wpOps P ops Q (l1++l2)) (λa w hk=>yF l2 l1 hk) h;unfold wpOp at h ⊢;split
  ·rename_i ho;simp only[ho]at h;exact h
  ·rename_i o ho;simp only[ho]at h;split
   ·rename_i hw;simp only[hw,if_true]at h;rcases h with h | ⟨h1,h2⟩
    ·left;unfold Oper.wp at h ⊢;generalize(execOp a.eval o).run P w=r at h
     cases r with
     | ok n w'=>cases n<;>exact h
     | halt x w'=>cases x<;>exact h
    ·exact .inr ⟨h1,h2⟩
   ·rename_i hw;simp only[hw]at h;exact h
def Act.RA(a:Act)(ds:List Deferred):Act:={ a with defers:=a.defers++ds }
theorem o6(a:Act)(ds:List Deferred)(d:Option Tmp)(v:Value):Act.RA (a.put d v) ds=(Act.RA a ds).put d v:=by cases d<;>rfl
theorem DZ{o:Oper}{a:Act}{ds:List Deferred}{next next':Act→World→Prop}{Q Q':Exit→Act→World→Prop}(hn:∀a w,next a w→next' (Act.RA a ds) w)(hq:∀e a w,Q e a w→Q' e (Act.RA a ds) w){r:Result Next}(h:o.upon P a next Q r):o.upon P (Act.RA a ds) next' Q' r:=by
 have hl:LetsOut Q→LetsOut Q':=λ⟨a,w,k⟩=>⟨_,w,hq _ a w k⟩
 cases r with
 | ok n w'=>
  cases n with
  | value v=>simp only[Oper.upon]at h ⊢;rw[← o6];exact hn _ _ h
  | skip=>simp only[Oper.upon]at h ⊢;rw[← o6];exact hn _ _ h
  | defer d=>
   simp only[Oper.upon]at h ⊢
   have e:({ Act.RA a ds with defers:=d::(Act.RA a ds).defers }:Act).put o.dst undef=Act.RA (({ a with defers:=d::a.defers }:Act).put o.dst undef) ds:=by rw[o6];rfl
   rw[e];exact hn _ _ h
  | enter f args=>
   simp only[Oper.upon]at h ⊢;refine h.mono ?_;intro e w2 he
   cases e with
   | returned v=>simp only at he ⊢;rw[← o6];exact hn _ _ he
   | panicked ch=>exact hq _ _ _ he
   | outgrown=>exact hl he
  | row row args=>
   simp only[Oper.upon]at h ⊢
   exact h.mono (λv w2 he=>by rw[← o6];exact hn _ _ he)
  | _=>exact h.elim
 | halt x w'=>
  cases x with
  | panic v=>exact hq _ _ _ h
  | _=>exact h.elim
theorem p_{ds:List Deferred}{Q Q':Exit→Act→World→Prop}(hq:∀e a w,Q e a w→Q' e (Act.RA a ds) w):∀(l:List Nat){a:Act}{w:World},wpOps P ops Q l a w→wpOps P ops Q' l (Act.RA a ds) w
 | [],a,w,h=>hq _ _ _ h
 | i::l,a,w,h=>by
  rw[wpOps_cons]at h ⊢;unfold wpOp at h ⊢;split
  ·rename_i ho;simp only[ho]at h;exact p_ hq l h
  ·rename_i o ho;simp only[ho]at h;have ht:(Act.RA a ds).tmps=a.tmps:=rfl;rw[ht];split
   ·rename_i hw;simp only[hw,if_true]at h;rcases h with h | ⟨h1,a2,w2,h2⟩
    ·left
     have he:(Act.RA a ds).eval=a.eval:=funext λx=>by cases x<;>rfl
     unfold Oper.wp at h ⊢;rw[he];exact DZ (λa w hk=>p_ hq l hk) hq h
    ·right
     have he:(Act.RA a ds).eval=a.eval:=funext λx=>by cases x<;>rfl
     refine⟨?_,_,w2,hq _ a2 w2 h2⟩;unfold Oper.asks at h1 ⊢;rw[he];exact h1
   ·rename_i hw;simp only[hw]at h;rw[← o6];exact p_ hq l h
end
section
variable{F:Fam}{P:Program}{T:TypeId→Option (TI F)}{Γ : Ctx F}{nv n:Nat}{R:Type}{own:Ow}{W0:World}{a:Act}{w:World}{g:G}
section
variable{ops:List Oper}
theorem wq{MK:Array Oper}(hops:MK.toList=ops){Q:Exit→Act→World→Prop}:∀(tr:List (TR F)) (k:Nat) (s s':St F),(∀j t,tr[j]? = some t→MK[k+j]? = some t.o)→Chain s tr s'→(∀t∈tr,TR.ok P n ops t)→
  ∀{g:G}{a:Act}{w:World},Good P own W0 n s g a w→(∀g' a' w',Good P own W0 n s' g' a' w'→Q .normal a' w')→wpOps P MK Q (List.range' k tr.length) a w
 | [],k,s,s',_,hc,_,g,a,w,hgood,hQ=>by have hc':s'=s:=hc;subst hc';exact hQ g a w hgood
 | t::tr,k,s,s',ho,hc,hok,g,a,w,hgood,hQ=>by
  obtain⟨hts,hc⟩:=hc;simp only[PN,List.range'_succ];rw[wpOps_cons]
  have hi:MK[k]? = some t.o:=by have:=ho 0 t rfl;simpa using this
  refine wT (hok t (by simp)) (s:=s) ?_ ?_ ?_ hgood hops hi ?_
  ·intro x _;rw[hts]
  ·intro id _;rw[hts]
  ·intro j hj
   have:=(hok t (by simp)).fresh j hj
   rw[hts]at this;exact this
  ·intro g' a' w' hg'
   refine wq hops tr (k+1) t.next s' ?_ hc (λx hx=>hok x (by simp[hx])) (by unfold TR.next;rw[hts];exact hg') hQ
   intro j t' hj
   have:=ho (j+1) t' (by simpa using hj)
   simpa[UA,QfH 1 j]using this
end
theorem Cp(hT:Mc P T)(hΓ : ML P Γ){MK:Array Oper}{kp:List Nat}{s:TS F}{K:TS F→Option R}{r:R}
  (h:Tn T Γ nv n kp MK.toList false s K=some r) {Q:Exit→Act→World→Prop} (hg:Good P own W0 n s.st g a w)
  (hQ:∀s' g' a' w',K s'=some r→Fr nv s s'→Good P own W0 n s'.st g' a' w'→Q .normal a' w'):wpOps P MK Q (List.range MK.size) a w:=by
 unfold Tn at h;obtain⟨z,tr,h1,t1,t2,t3,t4,t5⟩:=qf hT hΓ h;obtain⟨Uu,h1⟩:=aQ h1;obtain⟨E',h2,h3⟩:=nD h1
 have hQ':∀g' a' w',Good P own W0 n z.st g' a' w'→Q .normal a' w':=by
  intro g' a' w' hg';refine hQ _ g' a' w' h2 ⟨λx hx hn=>?_,t5.m,t5.c,t5.dE,t5.dM⟩ (hg'.sub ?_ (λ_ _ h=>h) (λ_ h=>h))
  ·show look E' x=_
   rw[h3,if_pos (by simp[Mf,R7.mpr hx])]
   exact t5.e x hx hn
  ·intro x d hx;simp only[TS.st]at hx ⊢;rw[h3]at hx;split at hx
   ·exact hx
   ·cases hx
 have hlen:MK.size=tr.length:=by rw[← Wt,← t1,Py]
 have:=pC (MK:=MK) rfl (Q:=Q) tr 0 s.st z.st (by
  intro j
  have:MK.toList[j]? = (tr.map (·.o))[j]?:=by rw[t1]
  rw[Rf]at this;rw[← this];simp) t2 t3 hg hQ'
 rw[← hlen]at this;rw[QfC];exact this
theorem Dd(hT:Mc P T)(hΓ : ML P Γ){id:Nat}{MK:Array Oper}{kp:List Nat}{s:TS F}{K:TS F→Option R}{r:R}{n:Nat}{a:Act}{w:World}{own:Ow}
  (h:Tn T Γ nv n kp MK.toList false s K=some r) {Q:Exit→Act→World→Prop} (hg:Good P own W0 n s.st g a w)
  (hQ:∀s' g' a' w',K s'=some r→Fr nv s s'→Good P own W0 n s'.st g' a' w'→Q .normal a' w'):(Code.region id MK false).wp P Q a w:=wp_region (Cp hT hΓ h hg hQ)
end
section
variable{F:Fam}{P:Program}{T:TypeId→Option (TI F)}{Γ : Ctx F}{nv:Nat}
theorem Dl{fn:Func}{sp:Spec F}{a:HL F sp.ks}{Li:Nat→Prop}{w:World}{vs:List Value}{LJ Me:List Pl}(hlen:Nat.ble sp.ks.length fn.ntmps=true)(VY:zJ sp.ks=true)
  (Oq:db P w Li sp.ks a vs LJ Me) (hpl:Sw w Li (Lh LJ)) (MQ:∀b,Li b→b<w.heap.size) :
  ∃g0,Good P ⟨λb=>b∈Lh LJ∨w.heap.size≤b,Li,(G.Vv 0 LJ Li).ids⟩ w fn.ntmps (⟨params 0 (TQ sp.ks a (NV sp.ks a 0).1),(NV sp.ks a 0).2.1,(NV sp.ks a 0).2.2,[],[]⟩:TS F).st g0 { tmps:=(⟨vs⟩:Array Value)++Array.replicate (fn.ntmps - (⟨vs⟩:Array Value).size) undef,defers:=[] } w∧
   (aU sp.ks a 0).map (G.Vv 0 LJ Li).ids=Me.map some:=by
  obtain⟨L,l1,l2,l3⟩:=ud Oq
  let g0:G:=⟨(G.Vv 0 LJ Li).ids,Li,L⟩
  have adf:Pm g0 0 LJ:=λj pl hj=>wE (I:=Li) (LJ:=LJ) (c:=0) j pl hj;obtain⟨h1,h2,h3,h4⟩:=si (g:=g0) (c:=0) Oq adf;have h1:=l3 (g:=g0) (λ_ h=>h) h1
  have Xe:∀b,L b→¬ (b∈Lh LJ∨w.heap.size≤b)∧b<w.heap.size:=by
   intro b hb;refine⟨λho=>?_,l1 b hb⟩;rcases UC _ _▸VY with hs | hs
   ·exact l2 hs b hb
   ·rw[ql hs Oq]at ho;rcases ho with ho | ho
    ·simp[Lh]at ho
    ·exact absurd (l1 b hb) (Nat.not_lt.2 ho)
  simp only[OW]at h3
  let own:Ow:=⟨λb=>b∈Lh LJ∨w.heap.size≤b,Li,(G.Vv 0 LJ Li).ids⟩
  have hvl:=pR Oq;have hlen':sp.ks.length≤fn.ntmps:=U4 hlen
  have hblk:∀{id:Nat}{B:Mg F}{b:Nat},look (NV sp.ks a 0).2.1 id=some B→g0.blk id b→∃b0 q,LJ[id]? = some (some (b0,q))∧b∈b0::MO q.2.2:=by rintro id B b _ ⟨b0,q,hq,hbb⟩;simp only[g0,G.Vv]at hq;rw[if_pos (Yx _),Nat.sub_zero]at hq;exact⟨b0,q,hq,hbb⟩
  have hgood:Good P own w fn.ntmps (⟨params 0 (TQ sp.ks a (NV sp.ks a 0).1),(NV sp.ks a 0).2.1,(NV sp.ks a 0).2.2,[],[]⟩:TS F).st g0 { tmps:=(⟨vs⟩:Array Value)++Array.replicate (fn.ntmps - (⟨vs⟩:Array Value).size) undef,defers:=[] } w:=by
   refine⟨rfl,?_,?_,⟨?_,?_,?_,MQ,λb hb=>.inl hb,Xe⟩,?_,λ_ h=>h,⟨rfl,rfl,rfl,MN _,λb hb=>.inr hb,λ_ _ _=>rfl,MN _⟩,λ_ _ h=>h⟩
   ·simp[hvl];omega
   ·intro x d hx;obtain⟨j,rfl,hj⟩:=rj _ 0 x d hx
    have hlt:j<vs.length:=by rw[h1.1];exact(K_.1 hj).1
    have:((⟨vs⟩:Array Value)++Array.replicate (fn.ntmps - (⟨vs⟩:Array Value).size) undef).getD (0+j) undef=vs[j]:=by
     rw[OW,UH,QfA (by simpa using hlt)]
     simp[hlt]
    rw[this];exact h1.2 j d _ hj (K9 hlt)
   ·intro id B hB;obtain⟨j,_,_,_,q⟩:=h2 _ (oR hB);exact q
   ·intro id id' B B' b hB hB' _ _ hb hb';obtain⟨b0,q,hq,hx⟩:=hblk hB hb;obtain⟨b0',q',hq',hx'⟩:=hblk hB' hb';exact mG hpl.nodup hq hx hq' hx'
   ·intro id B b hB _ hb;obtain⟨b0,q,hq,hx⟩:=hblk hB hb;have:=cI.2 ⟨id,b0,q,hq,hx⟩;exact⟨.inl this,hpl.Li b this⟩
   ·intro id hid;simp only[TS.st,bX,decide_eq_false_iff_not,h3]at hid;simp only[g0,G.Vv]
    rw[if_pos (Yx _),Nat.sub_zero,QeZ (by omega)]
  exact⟨g0,hgood,h4⟩
theorem Ew(hT:Mc P T)(hΓ : ML P Γ){fn:Func}{sp:Spec F}{a:HL F sp.ks}{r:TL F (outs sp)}{Li:Nat→Prop}{w w':World}{LJ Me:List Pl}{g':G}{s':TS F}{a':Act}{m:Nat}(hrs:sp.rs.all (λk=>!k.Ni)=true)
  (h4:(aU sp.ks a 0).map (G.Vv 0 LJ Li).ids=Me.map some) (k4:Good P ⟨λb=>b∈Lh LJ∨w.heap.size≤b,Li,(G.Vv 0 LJ Li).ids⟩ w m s'.st g' a' w') (k2:Tf T Γ fn sp.ks sp.rs a s'=some r) :
  ∃Ru,(results fn a'.tmps).run P w' = .ok (U6 Ru) w'∧∃(LX:Nat→Prop)(Mk:List Pl),
   w'.os=w.os∧w'.tape=w.tape∧w'.output=w.output∧w.drawn≤w'.drawn∧w.heap.size≤w'.heap.size∧(∀b,b<w.heap.size→b∉Lh LJ→w'.heap[b]? = w.heap[b]?)∧
   (∀b,Li b→LX b)∧(∀b,LX b→Li b∨b∈Lh LJ∨w.heap.size≤b)∧(∀b,LX b→b<w'.heap.size)∧
   eE P w' LX (outs sp) r Ru Me Mk∧Sw w' LX (Lh Me++Lh Mk)∧∀b∈Lh Me++Lh Mk,b∈Lh LJ∨w.heap.size≤b:=by
   unfold Tf at k2;split at k2
   ·cases k2
   ·rename_i rd hrd;split at k2
    ·cases k2
    ·rename_i p hp;obtain⟨hc,k2⟩:=aQ k2;simp only[Np]at hc;cases k2;obtain⟨Ru,q1,q2⟩:=vo hT k4 hrd
     have Zw:(aU sp.ks a 0).map g'.ids=Me.map some:=by rw[← h4];refine YC λid hid=>?_;obtain⟨q,_,hq⟩:=m0 h4 hid;rw[hq];exact k4.Sn id _ hq
     have hcnt:((sp.rs++sp.ks.filter Kd.Ni).filter Kd.Ni).length=(aU sp.ks a 0).length:=by
      rw[cG,Z7,QgQ]
      have:sp.rs.filter Kd.Ni = []:=by rw[QeA];intro k hk;have:=Td.1 hrs k hk;simpa using this
      rw[this];simp
     obtain⟨Mk,p1,p2,p3,p4⟩:=t_ hΓ k4.mem (λ_ _ h=>h) hp (Li:=(g'.Rm p.fz).Li) ⟨λ_ h=>.inl h,λid hid b hb=>.inr ⟨id,hid,hb⟩⟩ q2 Zw hcnt;have hfr:=mU k4.mem (λ_ _ h=>h) p3
     have hL:∀b∈Lh Me++Lh Mk,∃id B,some id∈p.os∧look s'.M id=some B∧B.owned=true∧g'.blk id b:=by intro b hb;obtain⟨id,r1,r2⟩:=cg.1 (p2.mem_iff.2 hb);obtain⟨B,r3,r4⟩:=p4 id r1;exact⟨id,B,r1,r3,r4,r2⟩
     refine⟨Ru,uL q1,(g'.Rm p.fz).Li,Mk,k4.NW.os,k4.NW.tape,k4.NW.output,k4.NW.drawn,k4.NW.size,?_,λb hb=>.inl (k4.Tw b hb),?_,hfr.Li,p1,⟨?_,?_,?_⟩,?_⟩
     ·intro b hb hno
      exact k4.NW.block b hb (λho=>ho.elim hno (λh=>by omega))
     ·intro b hb;exact hfr.io b hb
     ·exact p2.nodup_iff.1 (kh k4.mem (jm hc.1) p4)
     ·intro b hb;obtain⟨id,B,r1,r2,r3,r4⟩:=hL b hb;have hno:id∉p.fz:=nM hc.2 id (fT.2 r1)
      exact(hfr.own id B b (by rw[kV,if_neg hno];exact r2) r3 r4).2
     ·intro b hb;obtain⟨id,B,r1,r2,r3,r4⟩:=hL b hb;exact(k4.mem.ok id B r2).place k4.mem.Li (Mg.PU r3) r4
     ·intro b hb;obtain⟨id,B,r1,r2,r3,r4⟩:=hL b hb;exact(k4.mem.own id B b r2 r3 r4).1
end
set_option linter.unusedVariables false
set_option linter.unusedSimpArgs false
def wL(o:Oper):Bool:=match o.op with
 | .defer _=>false
 | _=>true
def Pd:Code→Bool
 | .region _ ops _=>ops.toList.all wL
 | .seq a b=>Pd a&&Pd b
 | .cond _ a b=>Pd a&&Pd b
 | .block _ a=>Pd a
 | .skip=>true
 | .exit _=>true
 | .ret=>true
 | .label _=>true
 | _=>false
abbrev Rnd(l:Nat):Fence:=Fence.wide.inRound l
section
variable{P:Program}{lr m:Nat}
theorem EO{f:FuncId}{args:Array Value}{w:World}{R:Ending→World→Prop}(h:Calls P f args w R):CallsIn (Rnd lr) m P f args w R:=callsIn_wide.2 h
theorem He{row:String}{args:Array Value}{w:World}{R:Value→World→Prop}(h:Rows P row args w R):RowsIn (Rnd lr) m P row args w R:=
 λc cs _=>let⟨v,w',r,s⟩:=h c cs;⟨v,w',r,stepsIn_wide.2 s⟩
theorem iu{ops:Array Oper}{Q:Exit→Act→World→Prop}(hd:ops.toList.all wL=true)(hQ:∀a w,¬ Q .outgrown a w):∀(l:List Nat){a:Act}{w:World},wpOps P ops Q l a w→wpOpsIn (Rnd lr) m P ops Q l a w
 | [],a,w,h=>h
 | i::rest,a,w,h=>by
  simp only[wpOps]at h;simp only[wpOpsIn]
  cases ho:ops[i]? with
  | none=>simp only[ho]at h ⊢;exact iu hd hQ rest h
  | some o=>
   simp only[ho]at h ⊢;split
   ·rename_i hw;simp only[hw,if_true]at h;rcases h with h | ⟨_,a',w',h⟩
    ·refine⟨λ_ _=>trivial,?_⟩
     have hnd:∀c,o.op≠.defer c:=by
      intro c hc
      have h1:o∈ops.toList:=by rw[← QdT]at ho;exact Wu ho
      have:=Td.1 hd o h1;simp[wL,hc]at this
     rw[Oper.semAt_eq _ _ _ hnd];unfold Oper.wp at h;generalize(execOp a.eval o).run P w=r at h ⊢;have hl:¬ LetsOut Q:=λ⟨a,w,k⟩=>hQ a w k
     cases r with
     | ok n w'=>
      cases n with
      | value v=>exact iu hd hQ rest h
      | skip=>exact iu hd hQ rest h
      | defer d=>exact iu hd hQ rest h
      | enter f args=>
       refine⟨(by intro h;cases h),EO (h.mono ?_)⟩
       intro e w2 he
       cases e with
       | returned v=>exact iu hd hQ rest he
       | panicked c=>exact he
       | outgrown=>exact he
      | row row args=>
       exact⟨(by intro h;cases h),He (h.mono λv w2 he=>iu hd hQ rest he)⟩
      | _=>exact h.elim
     | halt x w'=>
      cases x with
      | panic v=>exact h
      | _=>exact h.elim
    ·exact absurd h (hQ _ _)
   ·rename_i hw;simp only[hw]at h;exact⟨λ_ _=>trivial,iu hd hQ rest h⟩
end
section
variable{F:Fam}{P:Program}{T:TypeId→Option (TI F)}{Γ : Ctx F}{nv n:Nat}{own:Ow}{W0:World}{lr m:Nat}
theorem EN{s:TS F}{R:Type}{K:Nat→TS F→Option R}{r:R}{a:Act}{w:World}:¬ YE P own W0 n nv s K r .outgrown a w:=by
 rintro⟨k,s',g',h,_⟩
 match k,h with
 | 0,h=>cases h
 | 1,h=>cases h
 | k+2,h=>cases h
def fh(P:Program)(own:Ow)(W0:World)(n nv lr m:Nat)(c:Code)(run:TS F→{R:Type}→(Nat→TS F→Option R)→Option R):Prop:=
 ∀(s:TS F){R:Type}(K:Nat→TS F→Option R)(r:R),run s K=some r→∀(g:G)(a:Act)(w:World),Good P own W0 n s.st g a w→c.wpIn (Rnd lr) m P (YE P own W0 n nv s K r) a w
theorem FX{x y:Code}{f k:TS F→{R:Type}→(Nat→TS F→Option R)→Option R}(hx:fh P own W0 n nv lr m x f)(hy:fh P own W0 n nv lr m y k) :
  fh P own W0 n nv lr m (x.seq y) (λs R K=>f s λe s'=>match e with | 0=>k s' K | e=>K e s'):=by
 intro s R K r h g a w hg;refine wpIn_seq (wpIn_mono (hx s _ r h g a w hg) ?_);rintro e a' w' ⟨i,s',g',rfl,h2,h3,h4⟩
 match i,h2 with
 | 0,h2=>exact wpIn_mono (hy s' K r h2 g' a' w' h4) (λe a w hq=>hq.back h3)
 | 1,h2=>exact⟨1,s',g',rfl,h2,h3,h4⟩
 | i+2,h2=>exact⟨i+2,s',g',rfl,h2,h3,h4⟩
theorem CR{t:Nat}{x y:Code}{f k:TS F→{R:Type}→(Nat→TS F→Option R)→Option R}(hx:fh P own W0 n nv lr m x f)(hy:fh P own W0 n nv lr m y k) :
  fh P own W0 n nv lr m (.cond (.tmp t) x y) (λs R K=>match look s.E t with
  | some (.c (.im (.b b)))=>cond b (f s K) (k s K)
  | _=>none):=by
 intro s R K r h g a w hg;dsimp only at h;split at h
 ·rename_i b hb;refine wpIn_cond_split (pX (hg.env t _ hb)) (λe=>?_) (λe=>?_)
  ·subst e;exact hx s K r h g a w hg
  ·subst e;exact hy s K r h g a w hg
 ·cases h
theorem AR{b:Bool}{x y:Code}{f k:TS F→{R:Type}→(Nat→TS F→Option R)→Option R}(hx:fh P own W0 n nv lr m x f)(hy:fh P own W0 n nv lr m y k) :
  fh P own W0 n nv lr m (.cond (.const (.bool b)) x y) (λs R K=>cond b (f s K) (k s K)):=by
 intro s R K r h g a w hg;refine wpIn_cond_split (t:=b) rfl (λe=>?_) (λe=>?_)
 ·subst e;exact hx s K r h g a w hg
 ·subst e;exact hy s K r h g a w hg
theorem zn{i:Nat}{x:Code}{f:TS F→{R:Type}→(Nat→TS F→Option R)→Option R}(hx:fh P own W0 n nv lr m x f) :
  fh P own W0 n nv lr m (.block i x) (λs R K=>f s λe s'=>if Nat.beq e (i+2)then K 0 s' else K e s'):=by
 intro s R K r h g a w hg;refine wpIn_block (wpIn_mono (hx s _ r h g a w hg) ?_);rintro e a' w' ⟨j,s',g',rfl,h2,h3,h4⟩
 match j,h2 with
 | 0,h2=>exact⟨0,s',g',rfl,h2,h3,h4⟩
 | 1,h2=>exact⟨1,s',g',rfl,h2,h3,h4⟩
 | j+2,h2=>
  simp only at h2;show Exit.inBlock i _ (.exit j) a' w';simp only[Exit.inBlock];by_cases hij:j=i
  ·subst hij;rw[bC,if_pos rfl]at h2;rw[if_pos rfl];exact⟨0,s',g',rfl,h2,h3,h4⟩
  ·rw[ao (by omega)]at h2
   rw[if_neg hij];exact⟨j+2,s',g',rfl,h2,h3,h4⟩
theorem xE(hT:Mc P T)(hΓ : ML P Γ)(NM:P.follows .mixedOrders=true){id:Nat}{MK:Array Oper}{draw:Bool}{kp:List Nat}(hd:MK.toList.all wL=true) :
  fh P own W0 n nv lr m (.region id MK draw) (λs R K=>Tn T Γ nv n kp MK.toList draw s (K 0)):=by
 intro s R K r h g a w hg;unfold Tn at h;obtain⟨z,tr,h1,t1,t2,t3,t4,t5⟩:=qf hT hΓ h;obtain⟨Uu,h1⟩:=aQ h1;obtain⟨E',h2,h3⟩:=nD h1
 have hQ':∀g' a' w',Good P own W0 n z.st g' a' w'→YE P own W0 n nv s K r .normal a' w':=by
  intro g' a' w' hg';refine⟨0,_,g',rfl,h2,⟨λx hx hn=>?_,t5.m,t5.c,t5.dE,t5.dM⟩,hg'.sub ?_ (λ_ _ h=>h) (λ_ h=>h)⟩
  ·show look E' x=_
   rw[h3,if_pos (by simp[Mf,R7.mpr hx])]
   exact t5.e x hx hn
  ·intro x d hx;simp only[TS.st]at hx ⊢;rw[h3]at hx;split at hx
   ·exact hx
   ·cases hx
 cases draw with
 | false=>
  have hlen:MK.size=tr.length:=by rw[← Wt,← t1,Py]
  refine wpIn_region (iu hd (λ_ _=>EN) _ ?_)
  have:=pC (MK:=MK) rfl (Q:=YE P own W0 n nv s K r) tr 0 s.st z.st (by
   intro j
   have:MK.toList[j]? = (tr.map (·.o))[j]?:=by rw[t1]
   rw[Rf]at this;rw[← this];simp) t2 t3 hg hQ'
  rw[← hlen]at this;rw[QfC];exact this
 | true=>simp only[if_true,Np,PE]at Uu;refine wpIn_region_draw λt=>iu hd (λ_ _=>EN) _ ?_;simp only[Region.schedule,NM,Bool.true_or,if_true];exact wpAny_sound MK.size t _ a _ (vO (MK:=MK) rfl t1 t2 t3 t4 Uu.1 Uu.2 (sT hg) hQ')
theorem D4{c:Code}{f:TS F→{R:Type}→(Nat→TS F→Option R)→Option R}(hf:fh P own W0 n nv lr m c f)(kp:List Nat):fh P own W0 n nv lr m c (λs R K=>f (np kp s) K):=by intro s R K r h g a w hg;obtain⟨⟨g',h1⟩,h2⟩:=m7 (nv:=nv) kp hg;exact wpIn_mono (hf _ K r h g' a w h1) (λe a' w' hq=>hq.back h2)
theorem OL(hT:Mc P T)(hΓ : ML P Γ)(NM:P.follows .mixedOrders=true):∀(c:Code),Pd c=true→fh P own W0 n nv lr m c (MS T Γ nv n c)
 | .skip=>λhd s R K r h g a w hg=>wpIn_skip ⟨0,s,g,rfl,by simpa[MS]using h,.refl _ _,hg⟩
 | .exit i=>λhd s R K r h g a w hg=>wpIn_exit ⟨i+2,s,g,rfl,by simpa[MS]using h,.refl _ _,hg⟩
 | .ret=>λhd s R K r h g a w hg=>wpIn_ret ⟨1,s,g,rfl,by simpa[MS]using h,.refl _ _,hg⟩
 | .region id ops draw=>λhd s R K r h g a w hg=>xE (id:=id) (kp:=[]) hT hΓ NM hd s K r (by simp only[MS]at h;exact h) g a w hg
 | .seq x y=>λhd s R K r h g a w hg=>by
  simp only[Pd,Np]at hd
  exact FX (OL hT hΓ NM x hd.1) (OL hT hΓ NM y hd.2) s K r (by simp only[MS]at h;exact h) g a w hg
 | .cond (.tmp t) x y=>λhd s R K r h g a w hg=>by
  simp only[Pd,Np]at hd
  exact CR (OL hT hΓ NM x hd.1) (OL hT hΓ NM y hd.2) s K r (by simp only[MS]at h;exact h) g a w hg
 | .cond (.const v) x y=>by
  cases v with
  | bool b=>
   intro hd s R K r h g a w hg;simp only[Pd,Np]at hd
   exact AR (OL hT hΓ NM x hd.1) (OL hT hΓ NM y hd.2) s K r (by simp only[MS]at h;exact h) g a w hg
  | _=>exactλhd s R K r h g a w hg=>by simp[MS]at h
 | .cond (.global _) x y=>λhd s R K r h g a w hg=>by simp[MS]at h
 | .cond (.func _) x y=>λhd s R K r h g a w hg=>by simp[MS]at h
 | .block i x=>λhd s R K r h g a w hg=>zn (OL hT hΓ NM x hd) s K r (by simp only[MS]at h;exact h) g a w hg
 | .loop x=>λhd s R K r h g a w hg=>by simp[MS]at h
 | .goto x=>λhd s R K r h g a w hg=>by simp[MS]at h
 | .label x=>λhd s R K r h g a w hg=>wpIn_label ⟨0,s,g,rfl,by simpa[MS]using h,.refl _ _,hg⟩
 | .rangeFunc _ _ _ _=>λhd s R K r h g a w hg=>by simp[MS]at h
 | .refuse _=>λhd s R K r h g a w hg=>by simp[MS]at h
 | .scope x=>λhd=>by cases hd
theorem Jz(hΓ : ML P Γ){c:Code}{f:TS F→{R:Type}→(Nat→TS F→Option R)→Option R}(hf:fh P own W0 n nv lr m c f){dr:List Nat}{xs:List (Nat×Ks)}(hx:∀y∈PV xs,y∈dr) :
  fh P own W0 n nv lr m c (λs R K=>(f (clean s) λe s'=>TP Γ s dr s.c (aS s dr) xs e s').bind λv=>Ti (λe ks x=>K e (merge nv dr (aS s dr) s ks x)) xs v):=by
 intro s R K r h g a w hg;rw[ZV]at h;obtain⟨v,hv,he⟩:=h;refine wpIn_mono (hf (clean s) _ v hv g a w hg) ?_;rintro e a' w' ⟨i,s',g',rfl,h2,h3,h4⟩;obtain⟨ks,x,hp,hsub,hel⟩:=ut h2;rw[hel]at he;obtain⟨⟨g2,k1⟩,k2,_⟩:=pZ hΓ hg h4 (λx hx _ hn=>h3.e x hx hn) (λid hi _ hn=>h3.m id hi hn) (λy hy=>hx y (hsub y hy)) hp;exact⟨i,_,g2,rfl,he,k2,k1⟩
def RP:Hint→Bool
 | .z=>true
 | .r _=>true
 | .s a b=>RP a&&RP b
 | .c a b=>RP a&&RP b
 | .b a=>RP a
 | .j _ _ a=>RP a
 | _=>false
theorem Kl(hT:Mc P T)(hΓ : ML P Γ)(NM:P.follows .mixedOrders=true):∀(h:Hint),RP h=true→∀(c:Code),Pd c=true→fh P own W0 n nv lr m c (M8 T Γ nv n h c):=by
 intro h
 induction h with
 | z=>intro _ c hd s R K r hr;exact OL hT hΓ NM c hd s K r (by simp only[M8]at hr;exact hr)
 | r kp=>
  intro _ c hd s R K r hr
  cases c with
  | region id ops draw=>exact D4 (xE (id:=id) (kp:=kp) hT (ua hΓ) NM hd) kp s K r (by simp only[M8]at hr;exact hr)
  | _=>simp[M8]at hr
 | s h k ih ik=>
  intro hh c hd s R K r hr;simp only[RP,Np]at hh
  cases c with
  | seq x y=>
   simp only[Pd,Np]at hd
   exact FX (ih hh.1 x hd.1) (ik hh.2 y hd.2) s K r (by simp only[M8]at hr;exact hr)
  | _=>simp[M8]at hr
 | c h k ih ik=>
  intro hh c hd s R K r hr;simp only[RP,Np]at hh
  cases c with
  | cond t x y=>
   simp only[Pd,Np]at hd
   cases t with
   | tmp t=>exact CR (ih hh.1 x hd.1) (ik hh.2 y hd.2) s K r (by simp only[M8]at hr;exact hr)
   | const v=>cases v with
    | bool b=>exact AR (ih hh.1 x hd.1) (ik hh.2 y hd.2) s K r (by simp only[M8]at hr;exact hr)
    | _=>simp[M8]at hr
   | _=>simp[M8]at hr
  | _=>simp[M8]at hr
 | b h ih=>
  intro hh c hd s R K r hr
  cases c with
  | block i x=>exact zn (ih hh x hd) s K r (by simp only[M8]at hr;exact hr)
  | scope x=>cases hd
  | _=>simp[M8]at hr
 | j dr xs h ih=>
  intro hh c hd s R K r hr
  exact Jz (dr:=dr++PV xs) (xs:=xs) hΓ (ih hh c hd) (λy hy=>by simp[hy]) s K r (by simp only[M8]at hr;exact hr)
 | _=>intro hh;cases hh
end
set_option linter.unusedVariables false
set_option linter.unusedSimpArgs false
def ZK{τ α : Type}(step:α→τ→Option τ):List α→τ→Option τ
 | [],t=>some t
 | x::r,t=>(ZK step r t).bind (step x)
theorem Ba{τ α : Type}{step:α→τ→Option τ}(x:α):∀(l:List α)(t:τ),ZK step (l++[x]) t=(step x t).bind (ZK step l)
 | [],t=>by
  show step x t=(step x t).bind λt=>some t
  cases step x t<;>rfl
 | y::l,t=>by simp only[UF,ZK];rw[Ba x l t,Option.bind_assoc]
structure RfC where
 PX:Array Oper
 OZ:Array Oper
 YJ:Array Oper
 t:Nat
 pi:Nat
 px:Nat
 assign:Code
 body:Code
def AU:Code→Option RfC
 | .seq (.region _ PX false) (.seq (.seq (.region _ OZ false) (.block _ (.rangeFunc (.tmp t) ⟨[pi,px]⟩ assign body))) (.seq (.region _ YJ false) .ret))=>some ⟨PX,OZ,YJ,t,pi,px,assign,body⟩
 | _=>none
theorem Dp{c:Code}{q:RfC}(h:AU c=some q):∃i0 i1 ib i8,c = .seq (.region i0 q.PX false) (.seq (.seq (.region i1 q.OZ false) (.block ib (.rangeFunc (.tmp q.t) #[q.pi,q.px] q.assign q.body))) (.seq (.region i8 q.YJ false) .ret)):=by
 unfold AU at h;split at h
 ·cases h;exact⟨_,_,_,_,rfl⟩
 ·cases h
section
variable{F:Fam}
def A_:Option (Dat F)→Bool
 | some (.c (.ptr _ _))=>true
 | _=>false
def Xb:MJ F→Bool
 | .ln _=>false
 | .Yj _ _=>false
 | _=>true
def VU:Mg F→Bool
 | .box cs=>cs.all Xb
 | _=>true
def VT:Dat F→Bool
 | .c x=>Xb x
 | .agg cs=>cs.all Xb
 | .fv _ _ _=>true
 | _=>false
def SH(s:TS F):Bool:=s.M.all λp=>VU p.2
def Zg(s:TS F):Bool:=s.E.all (λp=>VT p.2)&&SH s
def ub(t:Nat)(E:List (Nat×Dat F)):List (Nat×Dat F):=E.filter λp=>!(Nat.beq t p.1)&&A_ (look E p.1)
def Vp(s:TS F)(t id:Nat)(tt:Ty)(l:List (ET F tt)):TS F:=⟨ub t s.E,(id,.Tc tt l)::s.M.filter (λp=>!(Nat.beq id p.1)),s.c,[],[]⟩
def aaf(m:TS F)(px:Nat)(d:Dat F):TS F:=⟨(px,d)::m.E,m.M,m.c,[],[]⟩
def rfZ(s:TS F):TS F:=⟨ub 1000000 s.E,s.M,s.c,s.dE,s.dM⟩
variable(T:TypeId→Option (TI F))(Γ : Ctx F)(nv n:Nat)
noncomputable def vL(q:RfC)(h:Hint)(te:TypeId)(sB:TS F)(OY kill:List Nat)(Og:Ks)(tt:Ty)(x:ET F tt)(t:TLS F Og):Option (TLS F Og):=
 match T te with
 | none=>none
 | some ti=>match fS ti ((LZ F tt x).map .im) 0 with
  | none=>none
  | some d=>MS T Γ nv n q.assign (aaf (merge nv OY kill sB Og t) q.px d) λe s1=>
    if Nat.beq e 0&&Zg s1 then M8 T Γ nv n h q.body s1 λe s'=>
     if Nat.beq e 0 then match Om Γ sB OY sB.c kill Og s' with
      | none=>none
      | some t'=>if SH (merge nv OY kill sB Og t')then some t' else none
     else none
    else none
noncomputable def z9(fn:Func)(fB:FuncId)(te:TypeId)(Og:Ks)(Wd:List Nat)(h:Hint)(ks rs:List Kd)(a:HL F ks):Option (TL F (rs++ks.filter Kd.Ni)):=
 match fn.body with
 | none=>none
 | some body=>match AU body with
  | none=>none
  | some q=>match r8 q.OZ.toList with
   | none=>none
   | some (pre,oB)=>match Aa oB with
    | none=>none
    | some e=>if Nat.beq e.t q.t&&Nat.beq e.f fB&&Nat.blt q.t fn.ntmps&&Nat.blt q.pi fn.ntmps&&Nat.blt q.px fn.ntmps&&!(Nat.beq q.pi q.px)&&Pd q.assign&&Pd q.body&&RP h then
      match NV ks a 0 with
      | (ds,bs,c)=>if zJ ks then
        Tn T Γ nv fn.ntmps [] q.PX.toList false ⟨params 0 (TQ ks a ds),bs,c,[],[]⟩ λs1=>
        WA T Γ nv fn.ntmps q.OZ.toList pre s1 [] λs2 _=>match look s2.E e.x with
         | some (.c (.Nn id))=>match look s2.M id,T te with
          | some (.row tt l),some ti=>
           if Nat.beq (LY F tt) ti.size&&!(Mf id (aS (Vp s2 q.t id tt l) (Wd++keysOf Og)))&&(Og.all λk=>(g_ k.2 (look (Vp s2 q.t id tt l).E k.1)).isSome)&&(look (Vp s2 q.t id tt l).E q.pi).isNone&&(look (Vp s2 q.t id tt l).E q.px).isNone&&Nat.blt id s2.c&&SH (Vp s2 q.t id tt l)&&Mf q.px (Wd++keysOf Og)&&fM ti.desc then
            match Om Γ (Vp s2 q.t id tt l) (Wd++keysOf Og) s2.c (aS (Vp s2 q.t id tt l) (Wd++keysOf Og)) Og (Vp s2 q.t id tt l)with
            | none=>none
            | some t0=>if SH (merge nv (Wd++keysOf Og) (aS (Vp s2 q.t id tt l) (Wd++keysOf Og)) (Vp s2 q.t id tt l) Og t0)then
              (ZK (vL T Γ nv fn.ntmps q h te (Vp s2 q.t id tt l) (Wd++keysOf Og) (aS (Vp s2 q.t id tt l) (Wd++keysOf Og)) Og tt) l t0).bind λv=>
               Tn T Γ nv fn.ntmps [] q.YJ.toList false (merge nv (Wd++keysOf Og) (aS (Vp s2 q.t id tt l) (Wd++keysOf Og)) (Vp s2 q.t id tt l) Og v) λs8=>
                if SH s8 then Tf T Γ fn ks rs a (rfZ s8)else none
              else none
           else none
          | _,_=>none
         | _=>none
       else none
     else none
end
section
variable{F:Fam}{P:Program}{own own':Ow}{W0 W1:World}{n n':Nat}{s s':St F}{g:G}{a a':Act}{w w':World}
def G.N8(g:G):G:=⟨g.ids,g.Li,λ_=>False⟩
theorem r_{c:MJ F}{x:Value}(hn:Xb c=true)(h:Mh g w c x):Mh g.N8 w c x:=by
 cases h with
 | ln h=>cases hn
 | Yj _ _ _ _ _ _ _ _=>cases hn
 | im h=>exact .im h
 | pt cs off b o f hb hc hr=>exact .pt cs off b o f hb hc hr
 | ptr h=>exact .ptr h
 | OV h=>exact .OV h
 | PG p h=>exact .PG p h
 | Nn h h1 h2=>exact .Nn h h1 h2
 | Tq p h=>exact .Tq p h
 | RD h h1 h2 h3 h4=>exact .RD h h1 h2 h3 h4
 | Tv h h1 h2=>exact .Tv h h1 h2
 | Ud h h1=>exact .Ud h h1
 | Tx h hm=>exact .Tx h hm
 | Sy h=>exact .Sy h
 | Uz cs b o b2 o2 f hb hv hb2 hc hr=>exact .Uz cs b o b2 o2 f hb hv hb2 hc hr
 | any=>exact .any
 | one h=>exact .one h
theorem C3{d:Dat F}{x:Value}(hn:VT d=true)(h:Ma P g w d x):Ma P g.N8 w d x:=by
 cases h with
 | c h=>exact .c (r_ hn h)
 | agg hl h=>exact .agg hl (λk c x a b=>r_ (Td.1 hn c (Wu a)) (h k c x a b))
 | Pp _ _=>cases hn
 | RY _ _ _ _=>cases hn
 | fv h=>exact .fv h
 | gh h=>exact .gh h
theorem Fu{id:Nat}{B:Mg F}(hn:VU B=true)(h:Na g w id B):Na g.N8 w id B:=by
 cases B with
 | box cs=>obtain⟨b,c,arr,t,h1,h2,h3,h4⟩:=h;exact⟨b,c,arr,t,h1,h2,h3,λk c x a b=>r_ (Td.1 hn c (Wu a)) (h4 k c x a b)⟩
 | _=>exact h
theorem Good.N8(h:Good P own W0 n s g a w)(hE:∀x d,s.e x=some d→VT d=true)(hM:∀id B,s.m id=some B→VU B=true):Good P own W0 n s g.N8 a w:=
 ⟨h.Ue,h.Tj,λx d hx=>C3 (hE x d hx) (h.env x d hx),⟨λid B hB=>Fu (hM id B hB) (h.mem.ok id B hB),h.mem.SX,h.mem.own,h.mem.Li,h.mem.io,λb hb=>hb.elim⟩,h.dom,h.Tw,h.NW,h.Sn⟩
theorem Good.world(h:Good P own W0 n s g a w)(hl:∀b,¬ g.len b)(hsz:w.heap.size≤w'.heap.size)(hd:w.drawn≤w'.drawn)(X:Nat→Prop)(hX:∀b,X b→¬ own.o b∧¬ own.i b)(hs:∀b,b<w.heap.size→¬ X b→w'.heap[b]? = w.heap[b]?)(hf:∀b,w'.heap.size≤b→own.o b) :
  Good P own w' n s g a w':=by
 have hle:Le g w g w':=by
  refine⟨λ_ _ h=>h,λ_ h=>h,λb hb=>?_,λ_ h=>h,λb hb=>(hl b hb).elim⟩;refine hs b (h.mem.Li b hb) (λhx=>?_);rcases h.mem.io b hb with hi | ho
  ·exact(hX b hx).2 hi
  ·exact(hX b hx).1 ho
 refine⟨h.Ue,h.Tj,λx d hx=>(h.env x d hx).le hle,⟨λid B hB=>(h.mem.ok id B hB).le hle λho b hb=>?_,h.mem.SX,h.mem.own,λb hb=>UG (h.mem.Li b hb) hsz,h.mem.io,λb hb=>(hl b hb).elim⟩,h.dom,h.Tw,⟨rfl,rfl,rfl,MN _,hf,λ_ _ _=>rfl,MN _⟩,h.Sn⟩;exact hs b ((h.mem.ok id B hB).place h.mem.Li (Mg.PU ho) hb) (λhx=>(hX b hx).1 (h.mem.own id B b hB ho hb).1)
theorem Good.env'(h:Good P own W0 n s g a w)(hd:a'.defers = [])(ht:a'.tmps.size=n')(he:∀x d,s'.e x=some d→Ma P g w d (a'.tmps.getD x undef))(hm:∀id B,s'.m id=some B→s.m id=some B)(hu:∀id,s'.u id=false→s.u id=false):Good P own W0 n' s' g a' w:=
 ⟨hd,ht,he,h.mem.sub hm,λid hi=>h.dom id (hu id hi),h.Tw,h.NW,h.Sn⟩
def Ow.aside(own:Ow)(g:G)(X:Nat→Prop):Ow:=⟨λb=>own.o b∧¬ X b,own.i,g.ids⟩
theorem Good.aside(h:Good P own W0 n s g a w)(hl:∀b,¬ g.len b)(X:Nat→Prop)(hX:∀b,X b→(∀id B,s.m id=some B→B.owned=true→¬ g.blk id b)∧¬ g.Li b)(hXs:∀b,X b→b<w.heap.size):Good P (own.aside g X) w n s g a w:=by
 refine⟨h.Ue,h.Tj,h.env,⟨h.mem.ok,h.mem.SX,λid B b hB ho hb=>⟨⟨(h.mem.own id B b hB ho hb).1,λhx=>(hX b hx).1 id B hB ho hb⟩,(h.mem.own id B b hB ho hb).2⟩,h.mem.Li,λb hb=>?_,λb hb=>(hl b hb).elim⟩,h.dom,h.Tw,⟨rfl,rfl,rfl,MN _,λb hb=>⟨h.NW.fresh b (Rb h.NW.size hb),λhx=>by have:=hXs b hx;omega⟩,λ_ _ _=>rfl,MN _⟩,λid p hp=>hp⟩
 rcases h.mem.io b hb with hi | ho
 ·exact .inl hi
 ·exact .inr ⟨ho,λhx=>(hX b hx).2 hb⟩
theorem Good.back{gB:G}{X:Nat→Prop}(h:Good P (own.aside gB X) W1 n s g a w)(hl:∀b,¬ g.len b)(hf:Vo own W0 w)(hn:∀id p,own.nm id=some p→gB.ids id=some p):Good P own W0 n s g a w:=
 ⟨h.Ue,h.Tj,h.env,⟨h.mem.ok,h.mem.SX,λid B b hB ho hb=>⟨(h.mem.own id B b hB ho hb).1.1,(h.mem.own id B b hB ho hb).2⟩,h.mem.Li,λb hb=>(h.mem.io b hb).imp id λhh=>hh.1,λb hb=>(hl b hb).elim⟩,h.dom,h.Tw,hf,λid p hp=>h.Sn id p (hn id p hp)⟩
theorem Vo.aside{gB:G}{X:Nat→Prop}(h:Vo own W0 w)(h2:Vo (own.aside gB X) w w'):Vo own W0 w':=
 ⟨h2.os.trans h.os,h2.tape.trans h.tape,h2.output.trans h.output,Rb h.size h2.size,h.fresh,λb hb ho=>(h2.block b (UG hb h.size) (λhh=>ho hh.1)).trans (h.block b hb ho),Rb h.drawn h2.drawn⟩
theorem zM{t x:Nat}{E:List (Nat×Dat F)}:look (ub t E) x=if !(Nat.beq t x)&&A_ (look E x)then look E x else none:=aK (λy=>!(Nat.beq t y)&&A_ (look E y)) x E
theorem oj{t x:Nat}{E:List (Nat×Dat F)}{d:Dat F}(h:look (ub t E) x=some d):x≠t∧look E x=some d∧∃id off,d = .c (.ptr id off):=by
 rw[zM]at h;split at h
 ·rename_i hc;obtain⟨h1,h2⟩:=(Np _ _).mp hc;refine⟨λe=>?_,h,?_⟩
  ·rw[e,bC]at h1;cases h1
  ·rw[h]at h2
   match d,h2 with
   | .c (.ptr id off),_=>exact⟨id,off,rfl⟩
 ·cases h
end
set_option linter.unusedVariables false
set_option linter.unusedSimpArgs false
def Be(P:Program)(fC:FuncId)(te:TypeId)(sz:Nat):Prop:=
 ∀(l bx n cap:Nat)(p:Option Addr)(J:Nat→World→Prop)(W:World),n≤maxLen→(n=0∨∃b,p=some ⟨b,0,none⟩)→
  (∀k w,J k w→w.heap[bx]? = W.heap[bx]?)→W.cell? ⟨bx,0,none⟩=some (.slice p n cap)→
  (∀k w,J (k+1) w→k<n→∀b,p=some ⟨b,0,none⟩→∃f:Nat→Value,(∀j,j<sz→w.cell? ⟨b,k*sz+j,none⟩=some (f j))∧YieldAt Fence.wide 0 P l #[.int .i64 (k:Nat),.agg ⟨(List.range sz).map f⟩] w λe w'=>e = .returned (.bool true)∧J k w')→
  J n W→CallsIn Fence.wide 1 P fC #[.func (.yield l) #[] #[],.pointer (some ⟨bx,0,none⟩)] W λe w'=>(∃v,e = .returned v)∧J 0 w'
section
variable{F:Fam}{P:Program}
theorem IE{T:TypeId→Option (TI F)}(hT:Mc P T){t:TypeId}{ti:TI F}(ht:T t=some ti)(hag:fM ti.desc=true){b q:Nat}{w:World}{f:Nat→Value}(hc:∀j,j<ti.size→w.cell? ⟨b,q+j,none⟩=some (f j)) :
  (loadVar t ⟨b,q,none⟩).run P w = .ok (.agg ⟨(List.range ti.size).map f⟩) w:=by
 have hrun:=run_loadCells (P:=P) w ⟨b,q,none⟩ ti.size f (by intro j hj;rw[Addr.add_lit];exact hc j hj)
 simp only[loadVar,OA,pW hT ht w,OM,hag,if_true,b_ hT ht w,hrun,PD]
theorem tz{E:List (Nat×Dat F)}:∀{ks:Ks}{v:TLS F ks}{c:Nat},(ks.all λk=>(g_ k.2 (look E k.1)).isSome)=true→∀y d,look (M6 E ks v c).1 y=some d→look E y=some d
 | [],v,c,h,y,d,hy=>by simp[M6,look]at hy
 | [k],v,c,h,y,d,hy=>by
  simp only[Z4,List.all_nil,QgH,QdC]at h;obtain⟨id,hid⟩:=h;simp only[M6,Si,hid]at hy;rcases iZ hid with⟨t,ow,hk,hl⟩ | ⟨t,arr,hk,hl⟩
  ·obtain⟨x,kk⟩:=k;simp only at hk hl hid hy;subst hk;simp only[X3,az]at hy;by_cases hxy:x=y
   ·subst hxy;rw[bC]at hy;simp only[if_true,NJ]at hy;rw[← hy];exact hl
   ·rw[ao hxy]at hy;simp[look]at hy
  ·obtain⟨x,kk⟩:=k;simp only at hk hl hid hy;subst hk;simp only[X3,az]at hy;by_cases hxy:x=y
   ·subst hxy;rw[bC]at hy;simp only[if_true,NJ]at hy;rw[← hy];exact hl
   ·rw[ao hxy]at hy;simp[look]at hy
 | k::l::r,v,c,h,y,d,hy=>by
  rw[Z4,Np]at h;obtain⟨h1,h2⟩:=h;rw[QdC]at h1;obtain⟨id,hid⟩:=h1;simp only[M6,Si,hid]at hy
  have key:∀(x:Nat)(dd:Dat F)(rest:List (Nat×Dat F)),look E x=some dd→(∀y d,look rest y=some d→look E y=some d)→look ((x,dd)::rest) y=some d→look E y=some d:=by
   intro x dd rest e1 e2 e3;rw[az]at e3;split at e3
   ·rename_i hb;have:=Rh hb;subst this;cases e3;exact e1
   ·exact e2 y d e3
  obtain⟨x,kk⟩:=k;simp only at hid hy;rcases iZ hid with⟨t,ow,hk,hl⟩ | ⟨t,arr,hk,hl⟩
  ·subst hk;simp only[X3]at hy;exact key x _ _ hl (λy d=>tz h2 y d) hy
  ·subst hk;simp only[X3]at hy;exact key x _ _ hl (λy d=>tz h2 y d) hy
theorem tn{nv:Nat}{OY kill:List Nat}{s:TS F}{ks:Ks}{v:TLS F ks}(hs:(ks.all λk=>(g_ k.2 (look s.E k.1)).isSome)=true){y:Nat}{d:Dat F}(h:look (merge nv OY kill s ks v).E y=some d):look s.E y=some d:=by
 have h:look ((M6 s.E ks v s.c).1++s.E.filter λp=>Nat.blt p.1 nv&&!(Mf p.1 OY)) y=some d:=h;rw[bj]at h
 cases hl:look (M6 s.E ks v s.c).1 y with
 | some d'=>rw[hl]at h;cases h;exact tz hs y _ hl
 | none=>
  rw[hl,Vx,aK (λy=>Nat.blt y nv&&!(Mf y OY))]at h;split at h
  ·exact h
  ·cases h
theorem pV{s:TS F}(h:SH s=true):∀id B,look s.M id=some B→VU B=true:=λid B hB=>Td.1 h (id,B) (oR hB)
theorem Db{s:TS F}(h:Zg s=true):(∀x d,look s.E x=some d→VT d=true)∧∀id B,look s.M id=some B→VU B=true:=by simp only[Zg,Np]at h;exact⟨λx d hx=>Td.1 h.1 (x,d) (oR hx),pV h.2⟩
theorem Vo.foreign{own:Ow}{W0 w w':World}(h:Vo own W0 w)(hos:w'.os=w.os)(ht:w'.tape=w.tape)(ho:w'.output=w.output)(hd:w.drawn≤w'.drawn)(hsz:w.heap.size≤w'.heap.size)(X:Nat→Prop)(hX:∀b,X b→own.o b)(hs:∀b,b<w.heap.size→¬ X b→w'.heap[b]? = w.heap[b]?):Vo own W0 w':=
 ⟨hos.trans h.os,ht.trans h.tape,ho.trans h.output,Rb h.size hsz,h.fresh,λb hb hn=>(hs b (UG hb h.size) (λhx=>hn (hX b hx))).trans (h.block b hb hn),Rb h.drawn hd⟩
structure RfI(P:Program)(own:Ow)(Wc:World)(n nv:Nat)(gB:G)(X:Nat→Prop)(a3:Act)(sB:TS F)(OY kill:List Nat)(Og:Ks)(t:TLS F Og)(w:World):Prop where
 good:∃g,Good P (own.aside gB X) w n (merge nv OY kill sB Og t).st g a3 w∧∀b,¬ g.len b
 NW:Vo own Wc w
 m:∀q∈(M6 sB.E Og t sB.c).2.1,sB.c≤q.1∨q.1∈kill
 e:∀y,y∉keysOf Og→look (M6 sB.E Og t sB.c).1 y=none
 c:sB.c≤(M6 sB.E Og t sB.c).2.2
variable{T:TypeId→Option (TI F)}{Γ : Ctx F}{nv n:Nat}{own:Ow}{Wc WB:World}{gB:G}{X:Nat→Prop}{a3:Act}{sB:TS F}{OY kill:List Nat}{Og:Ks}{w:World}
theorem JN(hbase:Good P (own.aside gB X) WB n sB.st gB a3 WB)(Yk:∀x d,look sB.E x=some d→∃i off,d = .c (.ptr i off)){g:G}{w:World}(hn:∀id p,gB.ids id=some p→g.ids id=some p){x:Nat}{d:Dat F}(h:look sB.E x=some d):Ma P g w d (a3.tmps.getD x undef):=by obtain⟨i,off,rfl⟩:=Yk x d h;obtain⟨b,c,h1,h2⟩:=bW (hbase.env x _ h);rw[h2];exact .c (.ptr (hn _ _ h1))
theorem At(Yk:∀x d,look sB.E x=some d→∃i off,d = .c (.ptr i off)){x:Nat}{d:Dat F}(h:look sB.E x=some d):VT d=true:=by obtain⟨i,off,rfl⟩:=Yk x d h;rfl
theorem B3(hΓ : ML P Γ)(hbase:Good P (own.aside gB X) WB n sB.st gB a3 WB)(hd3:a3.defers = [])(ht3:a3.tmps.size=n)(Yk:∀x d,look sB.E x=some d→∃i off,d = .c (.ptr i off))(hsame:(Og.all λk=>(g_ k.2 (look sB.E k.1)).isSome)=true)(hk:∀y∈keysOf Og,y∈OY)
  {z:TS F} {g:G} {a:Act} {w w':World} {W2:World} (hz:Good P (own.aside gB X) W2 n z.st g a w) (hE:∀x,x<nv→x∉OY→x∉z.dE→look z.E x=look sB.E x) (hM:∀id,id<sB.c→id∉kill→id∉z.dM→look z.M id=look sB.M id)
  {t:TLS F Og} (hp:Om Γ sB OY sB.c kill Og z=some t) (hnl:SH (merge nv OY kill sB Og t)=true)
  (hsz:w.heap.size≤w'.heap.size) (hd:w.drawn≤w'.drawn) (L:Nat→Prop) (hL:∀b,L b→X b∧¬ own.i b) (hs:∀b,b<w.heap.size→¬ L b→w'.heap[b]? = w.heap[b]?) (hf:∀b,w'.heap.size≤b→(own.aside gB X).o b) (RH:Vo own Wc w') :
  RfI P own Wc n nv gB X a3 sB OY kill Og t w':=by
 obtain⟨⟨g',k1⟩,q1,q2,q3⟩:=wH (nv:=nv) hΓ hbase hz hE hM hp;have k2:=k1.N8 (λx d hx=>At Yk (tn hsame hx)) (pV hnl);have k3:Good P (own.aside gB X) _ n (merge nv OY kill sB Og t).st g'.N8 a3 w:=k2.env' hd3 ht3 (λx d hx=>JN hbase Yk (λid p h=>k2.Sn id p h) (tn hsame hx)) (λ_ _ h=>h) (λ_ h=>h);exact⟨⟨g'.N8,k3.world (λ_ h=>h) hsz hd L (λb hb=>⟨λhh=>hh.2 (hL b hb).1,(hL b hb).2⟩) hs hf,λ_ h=>h⟩,RH,q1,q2,q3⟩
end
set_option linter.unusedVariables false
set_option linter.unusedSimpArgs false
section
variable{F:Fam}{P:Program}{T:TypeId→Option (TI F)}{Γ : Ctx F}{nv n:Nat}{own:Ow}{Wc WB:World}{gB:G}{X:Nat→Prop}{a3:Act}{sB:TS F}{OY kill:List Nat}{Og:Ks}{w:World}
theorem uK{t:TLS F Og}(hm:∀q∈(M6 sB.E Og t sB.c).2.1,sB.c≤q.1∨q.1∈kill){id:Nat}(hi:id<sB.c)(hk:id∉kill):look (merge nv OY kill sB Og t).M id=look sB.M id:=by
 show look ((M6 sB.E Og t sB.c).2.1++sB.M.filter λp=>!(Mf p.1 kill)) id=_;rw[bj,uB hi hk hm,Vx,aK (λy=>!(Mf y kill)),if_pos]
 cases h:Mf id kill with
 | true=>exact absurd (aN.1 h) hk
 | false=>rfl
theorem Bi{t:TLS F Og}(he:∀y,y∉keysOf Og→look (M6 sB.E Og t sB.c).1 y=none)(hk:∀y∈keysOf Og,y∈OY){x:Nat}(hx:x<nv)(hn:x∉OY):look (merge nv OY kill sB Og t).E x=look sB.E x:=by
 show look ((M6 sB.E Og t sB.c).1++sB.E.filter λp=>Nat.blt p.1 nv&&!(Mf p.1 OY)) x=_;rw[bj,he x (λh=>hn (hk x h)),Vx,aK (λy=>Nat.blt y nv&&!(Mf y OY)),if_pos];rw[R7.mpr hx]
 cases h:Mf x OY with
 | true=>exact absurd (aN.1 h) hn
 | false=>rfl
theorem Gl(hT:Mc P T)(hΓ : ML P Γ)(NM:P.follows .mixedOrders=true)(hbase:Good P (own.aside gB X) WB n sB.st gB a3 WB)(hd3:a3.defers = [])(ht3:a3.tmps.size=n)(Yk:∀x d,look sB.E x=some d→∃i off,d = .c (.ptr i off))
  (hsame:(Og.all λk=>(g_ k.2 (look sB.E k.1)).isSome)=true) (hk:∀y∈keysOf Og,y∈OY) {q:RfC} {h:Hint} {te:TypeId} {ti:TI F} (hti:T te=some ti) (hag:fM ti.desc=true) {tt:Ty} {l:List (ET F tt)} {x:ET F tt} {k:Nat} (hx:l[k]? = some x) {t t':TLS F Og}
  (hstep:vL T Γ nv n q h te sB OY kill Og tt x t=some t') (hdA:Pd q.assign=true) (hdB:Pd q.body=true) (hh:RP h=true) (hpi:look sB.E q.pi=none) (hpx:look sB.E q.px=none) (hpd:q.px∈OY) (afw:q.pi≠q.px) (hpn:q.px<n)
  {id b cap:Nat} {nn:Nat×NS} (adj:look sB.M id=some (.Tc tt l)) (adi:id∉kill) (Vb:id<sB.c) (adh:gB.ids id=some (some (b,cap,nn))) (aat:LY F tt=ti.size)
  {L D fnn:Nat} {rec:LoopState→Loop} (hrec:rec = λst=>{ state:=st,pending:=none,fn:=fnn,tmps:=a3.tmps,params:=#[q.pi,q.px],assign:=q.assign,body:=q.body,defers:=D })
  (Yl:X L) (hiL:¬ own.i L) (hoX:∀b,X b→own.o b) {wk:World} (hI:RfI P own Wc n nv gB X a3 sB OY kill Og t wk) (hL:wk.heap[L]? = some (.loop (rec .ready))) :
  ∃fv:Nat→Value,(∀j,j<ti.size→wk.cell? ⟨b,k*LY F tt+j,none⟩=some (fv j))∧YieldAt Fence.wide 0 P L #[.int .i64 (k:Nat),.agg ⟨(List.range ti.size).map fv⟩] wk λe w'=>e = .returned (.bool true)∧RfI P own Wc n nv gB X a3 sB OY kill Og t' w'∧w'.heap[L]? = some (.loop (rec .ready))∧∀y,X y→y≠L→y<wk.heap.size→w'.heap[y]? = wk.heap[y]?:=by
 obtain⟨⟨g,hg,hgl⟩,RH,hm,he,hc⟩:=hI
 have apl:look (merge nv OY kill sB Og t).M id=some (.Tc tt l):=by rw[uK hm Vb adi];exact adj
 have WH:g.ids id=some (some (b,cap,nn)):=hg.Sn _ _ adh;obtain⟨_,_,_,_,_,hcells⟩:=pF hg.mem apl WH;unfold vL at hstep;rw[hti]at hstep;dsimp only at hstep;split at hstep
 ·cases hstep
 rename_i d hd
 obtain⟨xv,hxv,hrep⟩:=eo (P:=P) (g:=g) (w:=wk) hT hti hd (b:=b) (q:=k*LY F tt) (by intro j c hj;obtain⟨dd,hdd,rfl⟩:=j6 hj;obtain⟨y,y1,y2⟩:=hcells _ _ (a_ hx hdd);exact⟨y,y1,.im y2⟩)
 rw[Vm]at hxv
 have hfv:∀j,j<ti.size→wk.cell? ⟨b,k*LY F tt+j,none⟩=some ((wk.cell? ⟨b,k*LY F tt+j,none⟩).getD undef):=by
  intro j hj
  have hjl:j<(LZ F tt x).length:=by rw[bo,aat];exact hj
  obtain⟨y,y1,_⟩:=hcells _ _ (a_ hx (K9 hjl));rw[y1];rfl
 have hxe:=IE (P:=P) hT hti hag (b:=b) (q:=k*LY F tt) (w:=wk) hfv;rw[hxv]at hxe
 injection hxe with hxe _
 refine⟨_,hfv,?_⟩;rw[← hxe]
 refine⟨fnn,_,q.assign,q.body,by have:=run_yield (P:=P) (args:=#[.int .i64 (k:Nat),xv]) hL (by rw[hrec];rfl);rw[hrec]at this;exact this,?_⟩
 have hLs:L<wk.heap.size:=(Wj.1 hL).1;refine roundIn_of_wpIn (F:=Fence.wide) (n:=0) trivial ?_;generalize haR:({ tmps:=_,defers:=[] }:Act)=aR
 have haR:aR=({ tmps:=(a3.tmps.setIfInBounds q.pi (.int .i64 (k:Nat))).setIfInBounds q.px xv,defers:=[] }:Act):=by rw[← haR];simp
 have hsR:aR.tmps.size=n:=by rw[haR];simp[ht3]
 have hgR:Good P (own.aside gB X) wk n (aaf (merge nv OY kill sB Og t) q.px d).st g aR wk:=by
  refine hg.env' (by rw[haR]) hsR (λy e hy=>?_) (λ_ _ h=>h) (λ_ h=>h)
  simp only[TS.st,aaf,az]at hy;rw[haR];dsimp only;rw[UH,QcQ];by_cases hyx:q.px=y
  ·subst hyx;rw[bC]at hy;simp only[if_true,NJ]at hy;subst hy
   rw[if_pos rfl,if_pos (by simpa[ht3]using hpn)]
   exact hrep
  ·rw[ao hyx]at hy;rw[if_neg hyx,QcQ]
   have hy':look (merge nv OY kill sB Og t).E y=some e:=by simpa using hy
   have hys:=tn hsame hy'
   have hyi:q.pi≠y:=by rintro rfl;rw[hpi]at hys;cases hys
   rw[if_neg hyi,← UH];exact hg.env y e hy'
 refine wpIn_mono (OL (lr:=L) (m:=0) hT hΓ NM q.assign hdA _ _ t' hstep g aR wk hgR) ?_;rintro e1 a1 w1 ⟨i,s1,g1,rfl,h2,h3,h4⟩;obtain⟨hc1,h2b⟩:=aQ h2;simp only[Np]at hc1;have hi0:=Rh hc1.1;subst hi0;obtain⟨ao0,aoZ⟩:=Db hc1.2;simp only[exC,Exit.then];have ZL:∀y,X y→¬ (own.aside gB X).o y:=λy hy hh=>hh.2 hy;have hX1:∀y,X y→y<wk.heap.size→w1.heap[y]? = wk.heap[y]?:=λy hy hlt=>h4.NW.block y hlt (ZL y hy);have hL1:w1.heap[L]? = some (.loop (rec .ready)):=(hX1 L Yl hLs).trans hL
 refine⟨_,run_beginRound hL1 (by rw[hrec]),?_⟩
 generalize hW2:w1.putObj L (.loop { rec .ready with state:=.busy })=w2
 have hs2:w2.heap.size=w1.heap.size:=by rw[← hW2];simp only[World.putObj,QgS]
 have ac_:∀y,y≠L→w2.heap[y]? = w1.heap[y]?:=λy hy=>by rw[← hW2,World.putObj_heap_other hy]
 have apn:L<w1.heap.size:=(Wj.1 hL1).1
 have hL2:w2.heap[L]? = some (.loop { rec .ready with state:=.busy }):=by rw[← hW2];exact World.putObj_heap_same apn
 have hg2:Good P (own.aside gB X) w2 n s1.st g1.N8 a1 w2:=by
  refine(h4.N8 ao0 aoZ).world (λ_ h=>h) (QfJ hs2.symm) (by rw[← hW2];exact MN _) (λy=>y=L) (λy hy=>⟨by rw[hy];exact ZL L Yl,by rw[hy];exact hiL⟩) (λy hy hn=>ac_ y hn) (λy hy=>h4.NW.fresh y ?_)
  exact Rb (h4.NW.size) (by rw[← hs2];exact hy)
 have hf2:Vo own Wc w2:=(RH.aside h4.NW).foreign (by rw[← hW2];rfl) (by rw[← hW2];rfl) (by rw[← hW2];rfl) (by rw[← hW2];exact MN _) (QfJ hs2.symm) (λy=>y=L) (λy hy=>by rw[hy];exact hoX L Yl) (λy _ hn=>ac_ y hn)
 refine wpIn_mono (Kl (lr:=L) (m:=0) hT hΓ NM h hh q.body hdB _ _ t' h2b _ _ _ hg2) ?_;rintro e5 a5 w5 ⟨i,s5,g5,rfl,k2,k3,k4⟩;obtain⟨hc5,k2b⟩:=aQ k2;have hi0:=Rh hc5;subst hi0;split at k2b
 ·cases k2b
 rename_i t2 hp;obtain⟨hnl,k2c⟩:=aQ k2b;cases k2c;simp only[exC,roundPost];have hX5:∀y,X y→y<w2.heap.size→w5.heap[y]? = w2.heap[y]?:=λy hy hlt=>k4.NW.block y hlt (ZL y hy)
 have hL5:w5.heap[L]? = some (.loop { rec .ready with state:=.busy }):=(hX5 L Yl (by omega)).trans hL2
 refine⟨_,_,run_endRound none hL5,rfl,?_⟩
 have hob:({ { rec .ready with state:=.busy }with state:=if(none:Option Code).isNone then .ready else .done,pending:=none }:Loop)=rec .ready:=by rw[hrec];rfl
 rw[hob];generalize hW6:w5.putObj L (.loop (rec .ready))=w6
 have hs6:w6.heap.size=w5.heap.size:=by rw[← hW6];simp only[World.putObj,QgS]
 have ac8:∀y,y≠L→w6.heap[y]? = w5.heap[y]?:=λy hy=>by rw[← hW6,World.putObj_heap_other hy]
 have apm:L<w5.heap.size:=(Wj.1 hL5).1
 refine⟨?_,by rw[← hW6];exact World.putObj_heap_same apm,λy hy hne hlt=>?_⟩
 ·refine B3 hΓ hbase hd3 ht3 Yk hsame hk k4 (λy hy hn hd=>?_) (λy hy hn hd=>?_) hp hnl (QfJ hs6.symm) (by rw[← hW6];exact MN _) (λy=>y=L) (λy hy=>⟨by rw[hy];exact Yl,by rw[hy];exact hiL⟩) (λy _ hn=>ac8 y hn) (λy hy=>k4.NW.fresh y (Rb k4.NW.size (by rw[← hs6];exact hy))) ?_
  ·rw[k3.e y hy hd,h3.e y hy (λhh=>hd (k3.dE y hh))];simp only[aaf,az];rw[ao (λ(e:q.px=y)=>hn (e▸hpd))];exact Bi he hk hy hn
  ·have hc1:sB.c≤s1.c:=Rb hc h3.c
   rw[k3.m y (by omega) hd,h3.m y (UG hy hc) (λhh=>hd (k3.dM y hh))]
   exact uK (nv:=nv) (OY:=OY) hm hy hn
  ·exact(hf2.aside k4.NW).foreign (by rw[← hW6];rfl) (by rw[← hW6];rfl) (by rw[← hW6];rfl) (by rw[← hW6];exact MN _) (QfJ hs6.symm) (λy=>y=L) (λy hy=>by rw[hy];exact hoX L Yl) (λy _ hn=>ac8 y hn)
 ·have h1lt:y<w1.heap.size:=UG hlt h4.NW.size
  rw[ac8 y hne,hX5 y hy (by omega),ac_ y hne,hX1 y hy hlt]
end
set_option linter.unusedVariables false
set_option linter.unusedSimpArgs false
section
variable{F:Fam}{P:Program}{T:TypeId→Option (TI F)}{Γ : Ctx F}{nv:Nat}
theorem K7 (hT : Mc P T) (hΓ : ML P Γ) (NM : P.follows .mixedOrders = true) {f fB fC : FuncId} {fn : Func} {sp : Spec F} {te tsl : TypeId} {Og : Ks} {Wd : List Nat} {h : Hint} (hf : P.funcs[f]? = some fn) (hnm : (fn.name == "runtime.NumGoroutine") = false) (hbn : fn.body.isNone = false) (hlen : Nat.ble sp.ks.length fn.ntmps = true)
  (hrs:sp.rs.all (λk=>!k.Ni)=true) (Zu:jo P fB) (Zt:jo P fC)
  (hB:∀(p:Option Addr)(n cap:Nat)(w:World),Calls P fB #[.slice p n cap] w λe w'=>e = .returned (.func (.func fC) #[] #[.pointer (some ⟨w.heap.size,0,none⟩)])∧w'=w.alloc (.cells #[.slice p n cap] tsl (0,0)))
  (hC:∀ti,T te=some ti→Be P fC te ti.size)
  (hD:∀a r,sp.D a=some r→z9 T Γ nv fn fB te Og Wd h sp.ks sp.rs a=some r):O6 P f sp:=by
 refine⟨⟨fn,hf,hnm,hbn⟩,?_⟩;intro a r hr Li w vs LJ Me Oq hpl MQ;have hd:=hD a r hr;unfold z9 at hd;split at hd
 ·cases hd
 rename_i body hbody;split at hd
 ·cases hd
 rename_i q hq;obtain⟨i0,i1,ib,i8,rfl⟩:=Dp hq;split at hd
 ·cases hd
 rename_i pre oB hil;have Zo:=uY hil;split at hd
 ·cases hd
 rename_i e he;obtain⟨od,og,ats,oo⟩:=DT he;obtain⟨hc,hd⟩:=aQ hd;simp only[Np,R7,U3,and_assoc]at hc;obtain⟨hc1,hc2,hlt,hlti,hltx,hne,hdA,hdB,hhN⟩:=hc;have hc1:=Rh hc1;have hc2:=Rh hc2
 have afw:q.pi≠q.px:=λe=>by rw[e,bC]at hne;cases hne
 dsimp only at hd;obtain⟨VY,hd⟩:=aQ hd;obtain⟨g0,hgood,h4⟩:=Dl (fn:=fn) hlen VY Oq hpl MQ;generalize hown:(⟨λb=>b∈Lh LJ∨w.heap.size≤b,Li,(G.Vv 0 LJ Li).ids⟩:Ow)=own at hgood;refine callsIn_wide.1 (callsIn_of_wp_marks (F:=Fence.wide) (n:=1) hf hbody trivial ((wpIn_wide).2 ?_));refine wp_seq (Dd (id:=i0) hT hΓ hd hgood ?_);intro s1 g1 a1 w1 hd1 _ hg1;simp only[Exit.then];refine wp_seq (wp_seq (wp_region ?_));obtain⟨z,tr,hd2,t1,t2,t3,t4,t5⟩:=qf hT hΓ hd1;split at hd2
 rotate_left
 ·cases hd2
 rename_i id hx;split at hd2
 rotate_left
 ·cases hd2
 rename_i tt l ti hrow hti;obtain⟨hc3,hd3⟩:=aQ hd2;simp only[Np,and_assoc,QgO,R7]at hc3;obtain⟨e1,e2,e3,e4,e5,e6,e7,e8,e9⟩:=hc3;have aat:=Rh e1;generalize apc:Wd++keysOf Og=OY at *
 have hkd:∀y∈keysOf Og,y∈OY:=λy hy=>by rw[← apc];simp[hy]
 generalize hsB:Vp z q.t id tt l=sB at *;generalize akA:aS sB OY=kill at *
 have adi:id∉kill:=λhm=>by rw[aN.2 hm]at e2;cases e2
 have hpd:q.px∈OY:=aN.1 e8
 have hcB:sB.c=z.c:=by rw[← hsB];rfl
 split at hd3
 ·cases hd3
 rename_i t0 ht0;obtain⟨aoW,hd3⟩:=aQ hd3;obtain⟨v,hv,hd4⟩:=ZV.1 hd3
 have hlen1:q.OZ.size=tr.length+1:=by rw[← Wt,Zo,← t1];simp
 rw[hlen1,List.range_succ,QfC];refine yF _ _ ?_;refine wq (MK:=q.OZ) rfl tr 0 _ z.st (λj t0 hj=>?_) t2 t3 hg1 ?_
 ·have hjl:=(K_.1 hj).1
  rw[OW,← QdT,Zo,← t1,Rv (by simpa using hjl),Rf,hj]
  rfl
 intro g2 a2 w2 hg2;simp only[Exit.then]
 have hval:∃p cap,a2.eval (.tmp e.x) = .slice p l.length cap∧l.length≤maxLen∧((l = [])∨∃b,p=some ⟨b,0,none⟩∧g2.ids id=some (some (b,cap,l.length,[]))):=by
  rcases bu (bh (hg2.env _ _ hx))with⟨hi,p,hvv⟩ | ⟨b,cap,n',hi,h1,h2,hvv⟩
  ·rcases hg2.mem.ok id _ hrow with⟨r1,r2⟩ | ⟨b',cap',cur,ee,r1,_⟩
   ·subst r2;exact⟨p,_,hvv,Yx _,.inl rfl⟩
   ·rw[hi]at r1;cases r1
  ·rcases hg2.mem.ok id _ hrow with⟨r1,_⟩ | ⟨b',cap',cur,ee,r1,_⟩
   ·rw[hi]at r1;cases r1
   ·rw[hi]at r1;cases r1;exact⟨_,_,hvv,Rb h1 h2,.inr ⟨_,rfl,hi⟩⟩
 obtain⟨p,cap,hval,hmax,afy⟩:=hval
 have adz:q.OZ[tr.length]? = some oB:=by rw[← QdT,Zo,← t1];simp
 rw[wpOps_cons];unfold wpOp;rw[adz];dsimp only
 rw[show Region.wanted oB (yielded q.OZ a2.tmps)=true by simp[Region.wanted,og],if_pos rfl]
 left;unfold Oper.wp
 have hcr:=rZ (P:=P) (a:=a2) (w:=w2) (f:=fB) (fs:=[]) (cs:=[]) oo (by rw[← hc2];rfl) Zu
 rw[hcr];simp only[Oper.upon,M9,Oi,PE,Wq,hval];refine(hB p l.length cap w2).mono ?_;rintro e3' w3 ⟨rfl,rfl⟩;simp only[wpOps,od];generalize hw3:w2.alloc (.cells #[.slice p l.length cap] tsl (0,0))=w3
 have hs3:w3.heap.size=w2.heap.size+1:=by rw[← hw3,World.size_alloc]
 have hb3:w3.heap[w2.heap.size]? = some (.cells #[.slice p l.length cap] tsl (0,0)):=by rw[← hw3];exact heap_alloc_new w2 _
 have ab6:∀b,b<w2.heap.size→w3.heap[b]? = w2.heap[b]?:=λb hb=>by rw[← hw3];exact heap_alloc_old w2 _ hb
 generalize ha3:a2.put (some e.t) (.func (.func fC) #[] #[.pointer (some ⟨w2.heap.size,0,none⟩)])=a3
 have aaw:a3.defers = []:=by rw[← ha3];exact hg2.Ue
 have ac5:a3.tmps.size=fn.ntmps:=by rw[← ha3];simp[Act.put,hg2.Tj]
 simp only[Exit.then];refine wp_block ((wpIn_wide (n:=1)).1 (wpIn_rangeFunc ?_));intro fnn _
 have hga:a3.eval (.tmp q.t) = .func (.func fC) #[] #[.pointer (some ⟨w2.heap.size,0,none⟩)]:=by
  rw[← ha3,hc1,qc (by rw[hg2.Tj];exact hlt)]
 obtain⟨rec,hrec⟩:∃rec:LoopState→Loop,rec = λst=>{ state:=st,pending:=none,fn:=fnn,tmps:=a3.tmps,params:=#[q.pi,q.px],assign:=q.assign,body:=q.body,defers:=w3.heap.size }:=⟨_,rfl⟩;obtain⟨W1,hW1⟩:∃W1,(w3.alloc (.deferred (some []))).alloc (.loop (rec .ready))=W1:=⟨_,rfl⟩
 have hsW:W1.heap.size=w3.heap.size+2:=by rw[← hW1,World.size_alloc,World.size_alloc]
 have hL1:W1.heap[w3.heap.size+1]? = some (.loop (rec .ready)):=by
  rw[← hW1];have:=heap_alloc_new (w3.alloc (.deferred (some []))) (.loop (rec .ready))
  rwa [World.size_alloc]at this
 have hD1:W1.heap[w3.heap.size]? = some (.deferred (some [])):=by
  rw[← hW1,heap_alloc_old _ _ (by rw[World.size_alloc];omega)]
  exact heap_alloc_new w3 _
 have Zp:∀b,b<w3.heap.size→W1.heap[b]? = w3.heap[b]?:=by
  intro b hb
  rw[← hW1,heap_alloc_old _ _ (by rw[World.size_alloc];omega)]
  exact heap_alloc_old w3 _ hb
 refine⟨w3.heap.size+1,[{ target:=.collected w3.heap.size,args:=#[] }],W1,{ target:=.fn (.func fC) #[.pointer (some ⟨w2.heap.size,0,none⟩)],args:=#[.func (.yield (w3.heap.size+1)) #[] #[]] },W1,fC,
  #[.func (.yield (w3.heap.size+1)) #[] #[]]++#[.pointer (some ⟨w2.heap.size,0,none⟩)],W1,?_,?_,?_,?_,?_,?_⟩
 ·rw[← hW1,hrec];exact run_enterLoop_outer _ _ _ _ _
 ·simp only[resolve,hga];simp[go_sem]
 ·intro f' _;trivial
 ·simp[invoke,go_sem,yH Zt]
 ·intro h;cases h
 have hfz:=mU hg2.mem (λ_ _ h=>h) (ids:=[id]) (λid' NY=>by rw[Lb]at NY;subst NY;exact .inl ⟨tt,l,.inl hrow⟩)
 have Yk:∀x d,look sB.E x=some d→∃i off,d = .c (.ptr i off):=λx d hxd=>by rw[← hsB]at hxd;exact(oj hxd).2.2
 have adj:look sB.M id=some (.Tc tt l):=by rw[← hsB];simp[Vp,az]
 have hgB:Good P own w fn.ntmps sB.st (g2.Rm [id]).N8 a3 w2:=by
  have h1:Good P own w fn.ntmps sB.st (g2.Rm [id]) a3 w2:=by
   refine⟨aaw,ac5,λx d hxd=>?_,hfz.sub λy B hy=>?_,λy hy=>hg2.dom y (by simp only[TS.st,hcB]at hy;exact hy),λb hb=>.inl (hg2.Tw b hb),hg2.NW,hg2.Sn⟩
   ·rw[← hsB]at hxd;obtain⟨h1,h2,_⟩:=oj hxd
    rw[← ha3,U9,if_neg (λe'=>h1 (by rw[← e',hc1]))]
    exact(hg2.env x d h2).le (pE _ _ _)
   ·rw[← hsB]at hy;simp only[TS.st,Vp,az]at hy;rw[kV];by_cases hyi:id=y
    ·subst hyi;rw[bC]at hy;simp only[if_true,NJ]at hy
     rw[if_pos (by simp),show Uw z.st.m _ id=some (.Tc tt l)from u7 hrow,hy]
    ·rw[ao hyi,aK (λy=>!(Nat.beq id y))]at hy;simp only[RZ,if_false]at hy
     rw[if_neg (by simp;exactλe=>hyi e.symm)]
     split at hy
     ·exact hy
     ·cases hy
  exact h1.N8 (λx d hxd=>At Yk hxd) (pV e7)
 have akD:Vo own w W1:=hg2.NW.foreign (by rw[← hW1,← hw3];rfl) (by rw[← hW1,← hw3];rfl) (by rw[← hW1,← hw3];rfl) (by rw[← hW1,← hw3];exact MN _) (by omega) (λ_=>False) (λ_ h=>h.elim) (λb hb _=>by rw[Zp b (by omega),ab6 b hb])
 have ao5:Good P own W1 fn.ntmps sB.st (g2.Rm [id]).N8 a3 W1:=hgB.world (λ_ h=>h) (by omega) (by rw[← hW1,← hw3];exact MN _) (λ_=>False) (λ_ h=>h.elim) (λb hb _=>by rw[Zp b (by omega),ab6 b hb]) (λb hb=>hg2.NW.fresh b (Rb hg2.NW.size (by omega)))
 generalize hXd:(λb=>b=w2.heap.size∨b=w3.heap.size∨b=w3.heap.size+1)=X
 have X_:∀b,X b→w2.heap.size≤b∧b<W1.heap.size:=λb hb=>by
  rw[← hXd]at hb
  rcases hb with rfl | rfl | rfl<;>omega
 have ZI:∀b,(g2.Rm [id]).N8.Li b→b<w2.heap.size:=λb hb=>hgB.mem.Li b hb
 have hbase:Good P (own.aside (g2.Rm [id]).N8 X) W1 fn.ntmps sB.st (g2.Rm [id]).N8 a3 W1:=ao5.aside (λ_ h=>h) X (λb hb=>⟨λid' B hB ho hbb=>by
   have:=(hgB.mem.ok id' B hB).place hgB.mem.Li (Mg.PU ho) hbb;have:=(X_ b hb).1
   omega,λhh=>by have:=ZI b hh;have:=(X_ b hb).1;omega⟩) (λb hb=>(X_ b hb).2)
 have hiX:∀b,X b→¬ own.i b:=λb hb hi=>by have:=ZI b (.inl (hg2.Tw b hi));have:=(X_ b hb).1;omega
 have hoX:∀b,X b→own.o b:=λb hb=>hg2.NW.fresh b (Rb hg2.NW.size (X_ b hb).1)
 have hXb:X w2.heap.size:=by rw[← hXd];exact .inl rfl
 have hXD:X w3.heap.size:=by rw[← hXd];exact .inr (.inl rfl)
 have Yl:X (w3.heap.size+1):=by rw[← hXd];exact .inr (.inr rfl)
 have hI0:RfI P own w fn.ntmps nv (g2.Rm [id]).N8 X a3 sB OY kill Og t0 W1:=by
  refine B3 hΓ hbase aaw ac5 Yk e3 hkd hbase (λ_ _ _ _=>rfl) (λ_ _ _ _=>rfl) (by rw[hcB];exact ht0) aoW (MN _) (MN _) (λ_=>False) (λ_ h=>h.elim) (λ_ _ _=>rfl) (λb hb=>hbase.NW.fresh b hb) akD
 have akJ:W1.heap[w2.heap.size]? = some (.cells #[.slice p l.length cap] tsl (0,0)):=by rw[Zp _ (by omega)];exact hb3
 refine callsIn_wide.2 ((callsIn_wide (n:=1)).1 ((hC ti hti (w3.heap.size+1) w2.heap.size l.length cap p (λk wk=>∃t,ZK (vL T Γ nv fn.ntmps q h te sB OY kill Og tt) (l.take k) t=some v∧RfI P own w fn.ntmps nv (g2.Rm [id]).N8 X a3 sB OY kill Og t wk∧wk.heap[w3.heap.size+1]? = some (.loop (rec .ready))∧(∀y,X y→y≠w3.heap.size+1→wk.heap[y]? = W1.heap[y]?)) W1 hmax ?_ ?_ ?_ ?_ ?_).mono ?_))
 ·rcases afy with hh | ⟨b,hh,_⟩
  ·left;rw[hh];rfl
  ·exact .inr ⟨b,hh⟩
 ·rintro k wk ⟨t,_,_,_,hx4⟩
  exact hx4 _ hXb (by omega)
 ·simp[World.cell?,akJ]
 ·rintro k wk ⟨t,hr1,hI,hLk,hXk⟩ hkl b hpb;have hlk:l[k]? = some l[k]:=K9 hkl;rw[← List.take_append_getElem hkl,Ba,ZV]at hr1;obtain⟨t',hst,hr2⟩:=hr1
  have adh:g2.ids id=some (some (b,cap,l.length,[])):=by
   rcases afy with hh | ⟨b',hh,hi⟩
   ·rw[hh]at hkl;simp at hkl
   ·rw[hpb]at hh;cases hh;exact hi
  obtain⟨xv,q1,fq,tq,aq,bq,q2,q3⟩:=Gl (k:=k) hT hΓ NM hbase aaw ac5 Yk e3 hkd hti e9 hlk hst hdA hdB hhN e4 e5 hpd afw hltx adj adi (by rw[hcB];exact e6) (b:=b) (cap:=cap) (nn:=(l.length,[])) adh aat hrec Yl (hiX _ Yl) hoX hI hLk
  refine⟨xv,by rw[← aat]at q1 ⊢;exact q1,fq,tq,aq,bq,q2,q3.mono ?_⟩
  rintro e' w' ⟨h1,h2,h3,h5⟩;refine⟨h1,t',hr2,h2,h3,λy hy hn=>?_⟩;rw[h5 y hy hn ?_,hXk y hy hn];obtain⟨⟨gg,hgg,_⟩,_⟩:=hI;have h7:wk.heap[y]? = W1.heap[y]?:=hXk y hy hn;have h8:=(X_ y hy).2;rw[QeI h8]at h7;exact(Wj.1 h7).1
 ·exact⟨t0,by rw[Sq];exact hv,hI0,hL1,λ_ _ _=>rfl⟩
 rintro e4' w4' ⟨⟨v4,rfl⟩,t,hr1,hI,hLk,hXk⟩
 have htv:t=v:=by simpa[ZK]using hr1
 subst htv
 refine⟨none,_,by have:=run_endLoop (P:=P) hLk (by rw[hrec];simp);rw[hrec]at this;exact this,?_⟩
 simp only[Exit.inBlock,Exit.then,UF,PE];generalize hw4:w4'.putObj (w3.heap.size+1) _=w4
 have hs4:w4.heap.size=w4'.heap.size:=by rw[← hw4];simp only[World.putObj,QgS]
 have ac9:∀y,y≠w3.heap.size+1→w4.heap[y]? = w4'.heap[y]?:=λy hy=>by rw[← hw4,World.putObj_heap_other hy]
 obtain⟨⟨g4,hg4,ao4⟩,adA,_,_,_⟩:=hI
 have akC:Vo own w w4:=adA.foreign (by rw[← hw4];rfl) (by rw[← hw4];rfl) (by rw[← hw4];rfl) (by rw[← hw4];exact MN _) (QfJ hs4.symm) (λy=>y=w3.heap.size+1) (λy hy=>by rw[hy];exact hoX _ Yl) (λy _ hn=>ac9 y hn)
 have ZL:∀y,X y→¬ (own.aside (g2.Rm [id]).N8 X).o y:=λy hy hh=>hh.2 hy
 have ao9:Good P (own.aside (g2.Rm [id]).N8 X) w4 fn.ntmps (merge nv OY kill sB Og t).st g4 a3 w4:=hg4.world ao4 (QfJ hs4.symm) (by rw[← hw4];exact MN _) (λy=>y=w3.heap.size+1) (λy hy=>⟨by rw[hy];exact ZL _ Yl,by rw[hy];exact hiX _ Yl⟩) (λy _ hn=>ac9 y hn) (λy hy=>hg4.NW.fresh y (by rw[← hs4];exact hy))
 have hD4:w4.heap[w3.heap.size]? = some (.deferred (some [])):=by rw[ac9 _ (by omega),hXk _ hXD (by omega)];exact hD1
 have hadd:({ tmps:=a3.tmps,defers:={ target:=.collected w3.heap.size,args:=#[] }::a3.defers }:Act)=Act.RA a3 [{ target:=.collected w3.heap.size,args:=#[] }]:=by unfold Act.RA;rw[aaw];rfl
 rw[hadd];refine wp_seq (wp_region ?_)
 refine p_ (Q:=λe a w'=>match e with | .normal=>∃s8 g8,(if SH s8 then Tf T Γ fn sp.ks sp.rs _ (rfZ s8)else none)=some r∧Good P (own.aside (g2.Rm [id]).N8 X) w4 fn.ntmps s8.st g8 a w' | _=>False) ?_ _ (Cp (Q:=λe a w'=>match e with | .normal=>∃s8 g8,(if SH s8 then Tf T Γ fn sp.ks sp.rs _ (rfZ s8)else none)=some r∧Good P (own.aside (g2.Rm [id]).N8 X) w4 fn.ntmps s8.st g8 a w' | _=>False) hT hΓ hd4 ao9 (λs' g' a' w' h1 h2 h3=>⟨s',g',h1,h3⟩))
 intro e8 a8 w8 h8
 cases e8 with
 | normal=>
  obtain⟨s8,g8,hd8,hg8⟩:=h8;obtain⟨aoV,hd8⟩:=aQ hd8;simp only[Exit.then];refine wp_ret ?_
  have hD8:w8.heap[w3.heap.size]? = some (.deferred (some [])):=by
   rw[hg8.NW.block _ ?_ (ZL _ hXD)]
   ·exact hD4
   ·exact(Wj.1 hD4).1
  have hDs8:w3.heap.size<w8.heap.size:=(Wj.1 hD8).1;have afz:∀y,y≠w3.heap.size→(Sc w8 w3.heap.size (.deferred none)).heap[y]? = w8.heap[y]?:=λy hy=>tH _ _ _ hy
  have hs9:(Sc w8 w3.heap.size (.deferred none)).heap.size=w8.heap.size:=by simp[Sc]
  have ao6:Good P (own.aside (g2.Rm [id]).N8 X) w4 fn.ntmps (rfZ s8).st g8 a8 w8:=hg8.sub (λx d hxd=>(oj hxd).2.1) (λ_ _ h=>h) (λ_ h=>h)
  have ao7:=ao6.N8 (λx d hxd=>by obtain⟨_,_,i,off,rfl⟩:=oj hxd;rfl) (pV (s:=rfZ s8) aoV)
  have hg9:=ao7.world (w':=Sc w8 w3.heap.size (.deferred none)) (λ_ h=>h) (QfJ hs9.symm) (MN _) (λy=>y=w3.heap.size) (λy hy=>⟨by rw[hy];exact ZL _ hXD,by rw[hy];exact hiX _ hXD⟩) (λy _ hn=>afz y hn) (λy hy=>hg8.NW.fresh y (Rb hg8.NW.size (by rw[← hs9];exact hy)))
  have hf9:Vo own w (Sc w8 w3.heap.size (.deferred none)):=(akC.aside hg8.NW).foreign rfl rfl rfl (MN _) (QfJ hs9.symm) (λy=>y=w3.heap.size) (λy hy=>by rw[hy];exact hoX _ hXD) (λy _ hn=>afz y hn)
  have afF:=hg9.back (λ_ h=>h) hf9 (λid' p' hp'=>hg2.Sn id' p' hp');rw[← hown]at afF;obtain⟨Ru,hres,LX,Mk,hrest⟩:=Ew hT hΓ hrs h4 afF hd8
  have hdf:(Act.RA a8 [{ target:=.collected w3.heap.size,args:=#[] }]).defers = [{ target:=.collected w3.heap.size,args:=#[] }]:=by unfold Act.RA;rw[hg8.Ue];rfl
  show LeavesInM Fence.wide 1 P fn _ _ (Act.RA a8 _).defers .returning w8;rw[hdf]
  refine⟨by simp,.inl ⟨w3.heap.size,_,rfl,run_takeDeferred hD8,?_⟩⟩
  exact⟨U6 Ru,hres,Ru,LX,Mk,rfl,hrest⟩
 | _=>exact h8.elim
theorem akO (hT : Mc P T) (hΓ : ML P Γ) (NM : P.follows .mixedOrders = true) {f fB fC : FuncId} {fn : Func} {sp : Spec F} {te tsl : TypeId} {Og : Ks} {Wd : List Nat} {h : Hint} (hf : P.funcs[f]? = some fn) (hnm : (fn.name == "runtime.NumGoroutine") = false) (hbn : fn.body.isNone = false) (hlen : Nat.ble sp.ks.length fn.ntmps = true)
  (hrs:sp.rs.all (λk=>!k.Ni)=true) (Zu:jo P fB) (Zt:jo P fC)
  (hB:∀(p:Option Addr)(n cap:Nat)(w:World),Calls P fB #[.slice p n cap] w λe w'=>e = .returned (.func (.func fC) #[] #[.pointer (some ⟨w.heap.size,0,none⟩)])∧w'=w.alloc (.cells #[.slice p n cap] tsl (0,0)))
  (hC:∀ti,T te=some ti→Be P fC te ti.size)
  (hD:(λa=>z9 T Γ nv fn fB te Og Wd h sp.ks sp.rs a)=sp.D):O6 P f sp:=
 K7 hT hΓ NM hf hnm hbn hlen hrs Zu Zt hB hC (λa r h=>by rw[← hD]at h;exact h)
end
end Go.Fx
