/-
  The framework, third part: regions in any order, code, loops over maps, functions, arguments as data, laws that say true. Conditions: none.
-/
import Derived.Test.YtkagmokhbmbjdaaGreatDoorFxB
import Derived.Eval
import Derived.Scope
import Derived.Maps.RangeRun
import Derived.Carry
import Derived.ChangeSlices
import Derived.OpenShut
import Derived.ProofKit
import Derived.WalkKit
import Derived.Lib.SliceRun
namespace Go.Fx
open Go
set_option linter.unusedVariables false
set_option linter.unusedSimpArgs false
def clr:NS→List Nat→NS
 | ns,[]=>ns
 | ns,p::ps=>clr (ns.set p none) ps
def nb1:Option (Nat×Nat×Nat)→List Nat
 | some (b,_)=>[b]
 | none=>[]
theorem uX(q:Option (Nat×Nat×Nat))(ns:NS):nbl (q::ns)=nb1 q++nbl ns:=by
 cases q with
 | none=>rfl
 | some q=>obtain⟨b,c⟩:=q;rfl
theorem Ez(q:Option (Nat×Nat×Nat))(l:List Pl):plBlks (lift1 q::l)=nb1 q++plBlks l:=by
 cases q with
 | none=>rfl
 | some q=>obtain⟨b,c,n⟩:=q;simp[lift1,plBlks,nb1,nbl]
theorem EQ{q:Option (Nat×Nat×Nat)}:∀{ns:NS}{p:Nat}{q0:Option (Nat×Nat×Nat)},ns[p]? = some q0→(nb1 q++nbl ns).Perm (nb1 q0++nbl (ns.set p q))
 | [],p,q0,h=>by simp at h
 | y::r,0,q0,h=>by simp only[List.getElem?_cons_zero,Option.some.injEq]at h;subst h;rw[List.set_cons_zero,uX,uX,← List.append_assoc,← List.append_assoc];exact List.perm_append_comm.append_right _
 | y::r,p+1,q0,h=>by
  rw[List.set_cons_succ,uX,uX]
  have ih:=EQ (q:=q) (ns:=r) (p:=p) (by simpa using h)
  have h1:(nb1 q++(nb1 y++nbl r)).Perm (nb1 y++(nb1 q++nbl r)):=by rw[← List.append_assoc,← List.append_assoc];exact List.perm_append_comm.append_right _
  have h2:(nb1 y++(nb1 q0++nbl (r.set p q))).Perm (nb1 q0++(nb1 y++nbl (r.set p q))):=by rw[← List.append_assoc,← List.append_assoc];exact List.perm_append_comm.append_right _
  exact h1.trans ((ih.append_left _).trans h2)
theorem BJ:∀{ps:List Nat}{ns:NS},(clr ns ps).length=ns.length
 | [],ns=>rfl
 | p::ps,ns=>by simp only[clr];rw[BJ,List.length_set]
theorem EX:∀{ps:List Nat}{ns:NS}{k:Nat},k∉ps→(clr ns ps)[k]? = ns[k]?
 | [],ns,k,h=>rfl
 | p::ps,ns,k,h=>by
  simp only[clr]
  rw[EX (λhk=>h (by simp[hk])),List.getElem?_set_ne (λe=>h (by simp[e]))]
theorem D1:∀{ps:List Nat}{ns:NS}{k:Nat}{q:Option (Nat×Nat×Nat)},ns[k]? = some none→(clr ns ps)[k]? = some q→q=none
 | [],ns,k,q,h0,h=>by simp only[clr]at h;rw[h0]at h;cases h;rfl
 | p::ps,ns,k,q,h0,h=>by
  simp only[clr]at h;refine D1 (ns:=ns.set p none) ?_ h;by_cases hp:p=k
  ·subst hp;rw[List.getElem?_set_self (LQ.1 h0).1]
  ·rw[List.getElem?_set_ne hp];exact h0
theorem F1:∀{ps:List Nat}{ns:NS}{k:Nat}{q:Option (Nat×Nat×Nat)},k∈ps→(clr ns ps)[k]? = some q→q=none
 | p::ps,ns,k,q,hk,h=>by
  simp only[clr]at h;by_cases hp:p=k
  ·subst hp;by_cases hlt:p<ns.length
   ·exact D1 (ns:=ns.set p none) (by rw[List.getElem?_set_self hlt]) h
   ·have:p<(clr (ns.set p none) ps).length:=(LQ.1 h).1;rw[BJ,List.length_set]at this;exact absurd this hlt
  ·exact F1 ((List.mem_cons.1 hk).resolve_left (λe=>hp e.symm)) h
theorem D2:∀{ps:List Nat}{ns:NS},ps.Nodup→(∀p∈ps,p<ns.length)→(nbl ns).Perm (plBlks (ps.map λp=>lift1 ((ns[p]?).getD none))++nbl (clr ns ps))
 | [],ns,_,_=>by simp[plBlks,clr]
 | p::ps,ns,hn,hl=>by
  obtain⟨h1,h2⟩:=List.nodup_cons.1 hn
  have hp:=hl p (by simp)
  have hq:ns[p]? = some ns[p]:=LP hp;have e1:=EQ (q:=none) hq;simp only[nb1,List.nil_append]at e1
  have ih:=D2 (ps:=ps) (ns:=ns.set p none) h2 (λp' h=>by rw[List.length_set];exact hl p' (by simp[h]))
  have e2:(ps.map λp'=>lift1 (((ns.set p none)[p']?).getD none))=ps.map λp'=>lift1 ((ns[p']?).getD none):=by
   refine List.map_congr_left λp' hp'=>?_
   rw[List.getElem?_set_ne (λe=>h1 (by rw[e];exact hp'))]
  rw[e2]at ih;simp only[List.map_cons,Ez,clr];rw[hq,Option.getD_some,List.append_assoc];refine e1.trans ?_;exact ih.append_left _
section
variable{F:Fam}{P:Program}{T:TypeId→Option (TI F)}{Γ : Ctx F}{o:Oper}{vals:List (Dat F)}{mm:Nat→Option (Blk F)}{c:Nat}{R:Type}{K:Res F→Option R}
variable{own:Ow}{g:G}{w:World}{m:Nat→Option (Blk F)}{u:Nat→Bool}{a:Act}
theorem MemOk.als(hm:MemOk own g w m){id k n:Nat}(h:SameM n (g.ids id) (g.ids k)):MemOk own g w (updM m [(id,some (.als k n))]):=by
 have hother:∀x,x≠id→updM m [(id,some (.als k n))] x=m x:=λx hx=>by
  simp only[updM]
  have:Nat.beq id x=false:=by
   cases hb:Nat.beq id x with
   | false=>rfl
   | true=>exact absurd (Nat.eq_of_beq_eq_true hb).symm hx
  rw[this];simp
 have hself:updM m [(id,some (.als k n))] id=some (.als k n):=by simp[updM]
 refine hm.chg (S:=λx=>x=id) (Le.refl g w) (λx hx B hB=>by rw[hother x hx]at hB;exact hB) (λ_ _=>rfl) (λx B b hx hB ho hb=>⟨rfl,(hm.own x B b hB ho hb).2⟩) ?_ hm.imm hm.io hm.len
 rintro x B rfl hB;rw[hself]at hB;cases hB
 exact⟨h,λb ho=>by cases ho⟩
theorem A6:∀{rs:List (Blk F)} {c:Nat} {p:Nat×Blk F},p∈nmF c rs→∃j,p.1=c+j∧rs[j]? = some p.2
 | B::r,c,p,h=>by
  rcases List.mem_cons.1 h with rfl | h
  ·exact⟨0,rfl,rfl⟩
  ·obtain⟨j,h1,h2⟩:=A6 h
   exact⟨j+1,by omega,by simpa using h2⟩
theorem BT(hm:MemOk own g w m)(hall:∀b,w.heap.size≤b→own.o b){id c i:Nat}{t:Ty}{l:List (ET F t)}{x:ET F t}(hB:m id=some (.nrow t l))(hx:l[i]? = some x){ks:List Nat}(hks:ks.Nodup)
  {rs:List (Blk F)} (hrs:rs.length=ks.length) (hr:∀(j:Nat)(B:Blk F),rs[j]? = some B→∃q t2 l2,ks[j]? = some q∧B = .row t2 l2∧(encT F t x)[q]? = some (.sl t2 l2)) (hkl:∀q∈ks,q<szT F t)
  (hf:∀j,j<ks.length+1→g.ids (c+j)=none) :
  ∃(g2:G)(b cap:Nat)(n:Nat×NS),Le g w g2 w∧MemOk own g2 w (updM m (takeW id c t l i ks rs))∧g2.imm=g.imm∧g2.len=g.len∧(∀y,¬ (c≤y∧y<c+ks.length+1)→g2.ids y=g.ids y)∧
   g.ids id=some (some (b,cap,n))∧g2.ids c=some (some (b,cap,n.1,clr n.2 (ks.map (i*szT F t + ·))))∧(∀j q,ks[j]? = some q→g2.ids (c+1+j)=some (lift1 ((n.2[i*szT F t+q]?).getD none)))∧
   OwnN w g.imm t l (some (b,cap,n))∧(∀y b',g2.blk y b'→(g.blk y b'∧¬ (c≤y∧y<c+ks.length+1))∨g.blk id b'):=by
 obtain⟨pl,hid,hO⟩:=hm.ok id _ hB;have hlt:i<l.length:=(LQ.1 hx).1
 cases pl with
 | none=>have:l = []:=hO;subst this;simp at hlt
 | some q=>
 obtain⟨b,cap,n⟩:=q;obtain⟨q1,q2,q3,q4,q5,cur,e,q6,q7,q8⟩:=hO;have hO':OwnN w g.imm t l (some (b,cap,n)):=⟨q1,q2,q3,q4,q5,cur,e,q6,q7,q8⟩
 have hpos:∀q∈ks,i*szT F t+q<n.2.length:=by intro q hq;have:=hkl q hq;rw[q4,dL];have h3:(i+1)*szT F t≤l.length*szT F t:=Nat.mul_le_mul_right _ hlt;rw[Nat.succ_mul]at h3;omega
 obtain⟨ps,hps⟩:∃ps,ps=ks.map (i*szT F t + ·):=⟨_,rfl⟩
 have hpn:ps.Nodup:=by
  subst hps
  exact List.pairwise_map.2 (hks.imp λh e=>h (by simpa using e))
 have hpl:∀p∈ps,p<n.2.length:=by subst hps;intro p hp;obtain⟨q,h1,rfl⟩:=List.mem_map.1 hp;exact hpos q h1
 have hperm:=D2 hpn hpl;obtain⟨pls',hpls⟩:∃pls':List Pl,pls'=some (b,cap,n.1,clr n.2 ps)::ps.map λp=>lift1 ((n.2[p]?).getD none):=⟨_,rfl⟩
 have hplen:pls'.length=ks.length+1:=by rw[hpls,hps];simp
 have hblks:plBlks pls'=b::(nbl (clr n.2 ps)++plBlks (ps.map λp=>lift1 ((n.2[p]?).getD none))):=by rw[hpls];rfl
 have hpermB:(b::nbl n.2).Perm (plBlks pls'):=by rw[hblks];exact(hperm.trans List.perm_append_comm).cons _
 have hmem:∀b',b'∈plBlks pls'↔g.blk id b':=by
  intro b';rw[← hpermB.mem_iff];constructor
  ·intro h;exact⟨b,(cap,n),hid,h⟩
  ·rintro⟨b0,c0,h1,h2⟩;rw[hid]at h1;cases h1;exact h2
 have hown1:∀b',g.blk id b'→own.o b'∧¬ g.imm b':=λb' h=>hm.own id _ b' hB rfl h;have hltb:∀b',g.blk id b'→b'<w.heap.size:=λb' h=>(hm.ok id _ hB).place hm.imm rfl h
 have hplo:plBlks ([some id].map (plOf g))=b::nbl n.2:=by simp[plOf,hid,plBlks]
 have hP0:PlOk w g.imm (plBlks ([some id].map (plOf g))):=by rw[hplo];refine⟨q5,λb' h=>(hown1 b' ⟨b,(cap,n),hid,h⟩).2,λb' h=>hltb b' ⟨b,(cap,n),hid,h⟩⟩
 have hP1:PlOk w g.imm (plBlks []++plBlks pls'):=by
  refine⟨?_,λb' h=>(hown1 b' ((hmem b').1 (by simpa[plBlks]using h))).2,λb' h=>hltb b' ((hmem b').1 (by simpa[plBlks]using h))⟩
  simp only[plBlks,List.nil_append];exact hpermB.nodup_iff.1 q5
 have hfr:∀k,k<pls'.length→g.ids (c+k)=none:=λk hk=>hf k (by omega)
 have hleB:Le g w (g.back c pls' g.imm) w:=by
  refine⟨λy r hy=>?_,λ_ h=>h,λ_ _=>rfl,λ_ h=>h,λ_ _=>rfl⟩
  rw[cy (λhc=>by have:=hfr (y - c) (by omega);rw[Nat.add_sub_cancel' hc.1]at this;rw[this]at hy;cases hy)]
  exact hy
 have hnm:NmAt (g.back c pls' g.imm) c pls':=xU
 have hc0:(g.back c pls' g.imm).ids c=some (some (b,cap,n.1,clr n.2 ps)):=by
  have:=hnm 0 _ (by rw[hpls];rfl)
  simpa using this
 have hcj:∀j q,ks[j]? = some q→(g.back c pls' g.imm).ids (c+1+j)=some (lift1 ((n.2[i*szT F t+q]?).getD none)):=by
  intro j q hj
  have:=hnm (j+1) (lift1 ((n.2[i*szT F t+q]?).getD none)) (by rw[hpls,List.getElem?_cons_succ,hps,List.map_map,List.getElem?_map,hj];rfl)
  rw[show c+1+j=c+(j+1)by omega]
  exact this
 have hback:Back (g.back c pls' g.imm) w c pls'.length [] ((c,.lrow t l i ks)::nmF (c+1) rs):=by
  intro p hp;rcases List.mem_cons.1 hp with rfl | hp
  ·refine⟨rfl,⟨_,hc0,q1,q2,q3,by rw[BJ];exact q4,?_,cur,e,q6,q7,?_⟩,.inl ⟨0,rfl,by omega⟩⟩
   ·have:(b::nbl (clr n.2 ps)).Sublist (b::(nbl (clr n.2 ps)++plBlks (ps.map λp=>lift1 ((n.2[p]?).getD none)))):=(List.sublist_append_left _ _).cons_cons _;exact(hblks▸hpermB.nodup_iff.1 q5:(b::(nbl (clr n.2 ps)++plBlks (ps.map λp=>lift1 ((n.2[p]?).getD none)))).Nodup).sublist this
   ·intro k d y p h1 h2 h3;constructor
    ·rintro⟨q,hq,rfl⟩
     have hin:i*szT F t+q∈ps:=by rw[hps];exact List.mem_map.2 ⟨q,hq,rfl⟩
     have hp0:∃p0,n.2[i*szT F t+q]? = some p0:=⟨_,LP (hpl _ hin)⟩;obtain⟨p0,hp0⟩:=hp0;refine⟨F1 hin h3,?_⟩;have:=q8 _ d y p0 h1 h2 hp0
     cases d with
     | sl t2 l2=>
      have hv:=this.2
      cases p0 with
      | none=>obtain⟨p,rfl⟩:=hv;rfl
      | some q=>simp only[lift1,OwnV]at hv;subst hv;rfl
     | _=>exact this.2.2.oneCell
    ·intro hno
     have hout:k∉ps:=by rw[hps];intro hk;obtain⟨q,hq1,hq2⟩:=List.mem_map.1 hk;exact hno ⟨q,hq1,hq2.symm⟩
     rw[EX hout]at h3;exact q8 k d y p h1 h2 h3
  ·obtain⟨j,h1,h2⟩:=A6 hp;obtain⟨q,t2,l2,hq,hB2,hd⟩:=hr j _ h2;have hjl:j<ks.length:=(LQ.1 hq).1;obtain⟨y,B2⟩:=p;simp only at h1 h2 hB2;subst h1;subst hB2
   refine⟨rfl,?_,.inl ⟨j+1,by omega,by omega⟩⟩
   have hin:i*szT F t+q∈ps:=by rw[hps];exact List.mem_map.2 ⟨q,List.mem_of_getElem? hq,rfl⟩
   have hplt:=hpl _ hin;have hp0:n.2[i*szT F t+q]? = some n.2[i*szT F t+q]:=LP hplt;have hcell:=aM hx hd
   have hcl:i*szT F t+q<cur.length:=by
    have:(cells F t l).length≤cur.length:=by rw[q7,dL];exact Nat.mul_le_mul_right _ q2
    omega
   have hC:=q8 _ _ _ _ hcell (LP hcl) hp0;have hname:=hcj j q hq;rw[hp0,Option.getD_some]at hname;obtain⟨hC1,hC2⟩:=hC
   cases hpp:n.2[i*szT F t+q]with
   | none=>rw[hpp]at hC1 hname;exact .inl ⟨hname,hC1⟩
   | some z=>obtain⟨b2,cap2,n2⟩:=z;rw[hpp]at hC1 hname;obtain⟨r1,r2,r3,cur2,e2,r4,r5,r6⟩:=hC1;cases r1;exact .inr ⟨b2,cap2,cur2,e2,hname,r4,r2,r3,r5,r6⟩
 have hM:=u6 (g1:=g) (m1:=m) (os:=[some id]) (bx:=[]) (bxs:=[]) (pls':=pls') (imm0:=g.imm) (imm':=g.imm) (I:=g.imm) (w':=w) hm hm rfl rfl hall rfl hfr
  (λid' h=>by simp only[LS,Option.some.injEq]at h;subst h;exact⟨_,hB,hB,rfl⟩) (λid' h=>by simp at h) rfl hP0 (λ_ h=>h) (Nat.le_refl _) (λ_ _ _=>rfl) (λ_ h=>h) (λ_ h=>h) (λb h=>.inl h) hm.imm hP1
  (λb' h=>.inl (by rw[hplo,hpermB.mem_iff];simpa[plBlks]using h)) hback
 refine⟨g.back c pls' g.imm,b,cap,n,hleB,?_,rfl,rfl,λy hy=>cy (by rw[hplen];omega),hid,hps▸hc0,hcj,hO',?_⟩
 ·have:=hM.als (id:=id) (k:=c) (n:=l.length) (.inl ⟨b,cap,n,(n.1,clr n.2 ps),hleB.ids _ _ hid,hc0,rfl,q1⟩)
  have e1:takeW id c t l i ks rs=(nones (somes [some id])++blks ((c,.lrow t l i ks)::nmF (c+1) rs))++[(id,some (.als c l.length))]:=by simp[takeW,nones,somes,blks]
  rw[e1,dw];exact this
 ·intro y b' hb;by_cases hy:c≤y∧y<c+ks.length+1
  ·right;obtain⟨b0,c0,h1,h2⟩:=hb;simp only[G.back]at h1
   rw[if_pos (by rw[hplen];omega)]at h1
   exact(hmem b').1 (bL.2 ⟨_,b0,c0,h1,h2⟩)
  ·left;obtain⟨b0,c0,h1,h2⟩:=hb
   rw[cy (by rw[hplen];omega)]at h1
   exact⟨⟨b0,c0,h1,h2⟩,hy⟩
theorem Gj(hm:MemOk own g w m){id c:Nat}{t:Ty}{l:List (ET F t)}(hB:m id=some (.nrow t l))(hf:g.ids c=none) :
  ∃g',MemOk own g' w (updM m [(id,none),(c,some (.nrow t l)),(id,some (.als c l.length))])∧Stp m g w g' w∧∀y,y≠c→g'.ids y=g.ids y:=by
 obtain⟨pl,hid,hO⟩:=hm.ok id _ hB;obtain⟨k1,k2⟩:=gz (rm:=[id]) (id:=c) (pl:=pl) (B:=.nrow t l) (w':=w) hm hf
  (λb0 c' e b hb=>.inr ⟨id,by simp,_,hB,rfl,b0,c',by rw[hid,e],hb⟩) rfl rfl rfl (Nat.le_refl _) (Nat.le_refl _) (λ_ _ _=>rfl) (λg' hle hi=>⟨pl,hi,by exact OwnN.chg hle.imm hle.heap (λ_ _ _ _ _=>rfl) hO⟩)
 refine⟨g.name c pl,?_,k2,λy hy=>bw _ _ _ hy⟩
 have h2:=k1.als (id:=id) (k:=c) (n:=l.length) (by
  rw[k2.le.ids _ _ hid,aT]
  cases pl with
  | none=>have:l = []:=hO;subst this;exact .inr ⟨rfl,rfl,rfl⟩
  | some q=>obtain⟨b,cap,n⟩:=q;exact .inl ⟨b,cap,n,n,rfl,rfl,rfl,hO.1⟩)
 have e:([(id,none),(c,some (.nrow t l)),(id,some (.als c l.length))]:List (Nat×Option (Blk F)))=([id].map (λr=>(r,none))++[(c,some (.nrow t l))])++[(id,some (.als c l.length))]:=rfl;rw[e,dw];exact h2
end
set_option linter.unusedVariables false
set_option linter.unusedSimpArgs false
section
variable{F:Fam}{P:Program}{Γ : Ctx F}{T:TypeId→Option (TI F)}{o:Oper}{vals:List (Dat F)}{mm:Nat→Option (Blk F)}{c:Nat}{R:Type}{K:Res F→Option R}
theorem xx{f:FuncId}(h:bc P f)(args:Array Value)(w:World):(callFunc f args).run P w = .ok (.enter f args) w:=by obtain⟨fn0,hf0,hf1,hf2⟩:=h;simp only[Sem.run_bind,Sem.run_pure,Result.andThen_ok,callFunc,run_program,hf0,hf1,hf2,Bool.false_eq_true,if_false]
theorem vr{fn:Operand}{args:Array Operand}{ats:Array TypeId}{a:Act}{w:World}{f:FuncId}{fs cs:List Value}(ho:o.op = .call { callee:=.value fn,args,argTypes:=ats })
  (hfn:a.eval fn = .func (.func f) ⟨fs⟩ ⟨cs⟩) (h:bc P f):(execOp a.eval o).run P w = .ok (.enter f ⟨fs++args.toList.map a.eval++cs⟩) w:=by
 have e:((⟨fs⟩:Array Value)++Array.map a.eval args++⟨cs⟩:Array Value)=⟨fs++args.toList.map a.eval++cs⟩:=by apply Array.ext';simp
 simp only[execOp,ho,resolve,Deferred.ofValue,hfn,Sem.run_bind,Sem.run_pure,Result.andThen_ok,invoke,e,xx h]
theorem xn{fn:Operand}{args:Array Operand}{ats:Array TypeId}(ho:o.op = .call { callee:=.value fn,args,argTypes:=ats })(a:Act):o.op.operands.toList.map a.eval=a.eval fn::args.toList.map a.eval:=by rw[ho];simp[Op.operands,Call.operands]
theorem xb{g:G}{w:World}{ds es:List (Dat F)}{vs us:List Value}(h:RepDs P g w ds vs)(k:RepDs P g w es us):RepDs P g w (ds++es) (vs++us):=by
 induction ds generalizing vs with
 | nil=>rw[d5 h];exact k
 | cons d ds ih=>obtain⟨v,vs',rfl,h1,h2⟩:=gO h;exact aL.2 ⟨h1,ih h2⟩
theorem FD(hΓ : CtxOk P Γ){fn:Operand}{args:Array Operand}{ats:Array TypeId}(ho:o.op = .call { callee:=.value fn,args,argTypes:=ats }){f:FuncId}{ds:List (Dat F)}
  (hv:∀(g:G)(w:World)(a:Act),RepDs P g w vals (o.op.operands.toList.map a.eval)→∃fs cs,a.eval fn = .func (.func f) ⟨fs⟩ ⟨cs⟩∧RepDs P g w ds (fs++args.toList.map a.eval++cs)) :
  Rule P o vals mm c K (Dv Γ mm c K f ds):=by
 unfold Dv;split
 ·exact ad
 ·rename_i sp hsp;split
  ·exact ad
  ·rename_i p hp;refine au (λhn=>ax λr hr=>?_) (λ_=>ad);simp only[Bool.and_eq_true]at hn;intro r' hr';refine⟨_,hr',?_⟩;intro own g w a m u hle hm hd hall hfr hrep;obtain⟨fs,cs,h1,h2⟩:=hv g w a hrep;exact FM (m:=m) hΓ hm hle hd hall h2 hsp hp hn.1 hn.2 hr hfr (vr ho h1 (hΓ f sp hsp).1)
theorem AS(hΓ : CtxOk P Γ){fn:Operand}{args:Array Operand}{ats:Array TypeId}(ho:o.op = .call { callee:=.value fn,args,argTypes:=ats }){f:FuncId}{ds:List (Dat F)}
  (hv:∀(g:G)(w:World)(a:Act),RepDs P g w vals (o.op.operands.toList.map a.eval)→∃fs cs,a.eval fn = .func (.func f) ⟨fs⟩ ⟨cs⟩∧RepDs P g w ds (fs++args.toList.map a.eval++cs)) :
  Rule P o vals mm c K (As Γ mm c K f ds):=by
 unfold As
 cases fgt Γ with
 | true=>exact FD hΓ ho hv
 | false=>
 simp only[cond_false];split
 ·exact ad
 ·rename_i sp hsp;split
  ·exact ad
  ·rename_i p hp;refine au (λhn=>ax λr hr=>?_) (λ_=>ad);simp only[Bool.and_eq_true]at hn;intro r' hr';refine⟨_,hr',?_⟩;intro own g w a m u hle hm hd hall hfr hrep;obtain⟨fs,cs,h1,h2⟩:=hv g w a hrep;exact Fv (m:=m) hΓ hm hle hd hall h2 hsp hp hn.1 hn.2 hr hfr (vr ho h1 (hΓ f sp hsp).1)
theorem HN{g:G}{w:World}{t:Ty}{x:ET F t}{v:Value}(h:RepT w g.imm (encT F t x,t.isSt) v):RepD P g w (datT t x) v:=by
 have one:∀{d:ND F},RepT w g.imm ([d],false) v→RepI w g.imm d v:=by
  intro d h;generalize hc:([d],false)=p at h
  cases h with
  | one h=>cases hc;exact h
  | agg=>cases hc
 cases t with
 | st n=>
  unfold datT;simp only[Ty.isSt]at h;generalize hc:encT F (.st n) x=cs at h ⊢
  cases h with
  | agg hl h=>
   refine .agg (by rw[List.length_map,hc,hl]) ?_
   intro k c y h1 h2;rw[List.getElem?_map,Option.map_eq_some_iff]at h1;obtain⟨d,h3,rfl⟩:=h1;exact .im (h k d y (hc▸h3) h2)
 | int k=>exact .c (.im (one h))
 | bool=>exact .c (.im (one h))
 | str=>exact .c (.im (one h))
 | slice t=>exact .c (.im (one h))
theorem Cb{imm:Nat→Prop}{w:World}:∀{ks:List Ty}{a:HL F (ks.map λt=>.v t [])} {vs:List Value} {pls:List Pl} {bxs:List Pl},c_ P w imm (ks.map λt=>.v t []) a vs pls bxs→RepTs w imm (encTs F ks (ut.toTup ks a)) vs
 | [],a,vs,pls,bxs,h=>by
  obtain⟨rfl,_,_⟩:=h
  exact⟨rfl,by simp[encTs]⟩
 | t::ks,a,vs,pls,bxs,h=>by
  obtain⟨v,vs',p1,p2,b1,b2,rfl,_,_,⟨h1,_⟩,h2⟩:=h;have hp:=h1.nil_pls;subst hp;obtain⟨h3,h4⟩:=Cb h2;have e:encTs F (t::ks) (ut.toTup (t::ks) a)=(encT F t a.1,t.isSt)::encTs F ks (ut.toTup ks a.2):=rfl;rw[e]
  refine⟨by simpa using h3,?_⟩
  intro k d x hd hx
  cases k with
  | zero=>simp only[ List.getElem?_cons_zero,Option.some.injEq]at hd hx;subst hd hx;exact uU h1
  | succ k=>exact h4 k d x (by simpa using hd) (by simpa using hx)
theorem Fk{fn:Operand}{args:Array Operand}{ats:Array TypeId}(ho:o.op = .call { callee:=.value fn,args,argTypes:=ats }){ks:List Ty}{r:Ty}{φ : TupT F ks→Option (ET F r)}{ds:List (Dat F)}(hv:vals = .fv ks r φ::ds) :
  Rule P o vals mm c K (ut mm K ks r φ ds):=by
 subst hv;unfold ut;split
 ·exact ad
 ·rename_i q hq;refine au (λhfl=>?_) (λ_=>ad);dsimp only;refine ax λx hx=>?_;intro r' hr';refine⟨_,hr',?_⟩;intro own g w a m u hle hm hd hall hfr hrep;rw[xn ho]at hrep;obtain⟨h1,h2⟩:=aL.1 hrep;generalize hfv:a.eval fn=fv at h1
  have h1':FvOk P F w g.imm ks r φ fv:=by cases h1 with | fv h=>exact h
  obtain⟨fid,bound,captured,rfl,hbd,hent,hfn⟩:=h1';have hfz:Frz g q.fz (g.fzs q.fz).imm:=⟨λ_ h=>.inl h,λid hid b hb=>.inr ⟨id,hid,hb⟩⟩
  obtain⟨k1,k2⟩:=jg (P:=P) (us:=[]) hm hle hq hfz h2 ⟨rfl,by simp⟩
  have k3:=Cb (k1 w _ (λb hb=>⟨hb,rfl⟩) () [] ⟨rfl,by simp[encTs]⟩)
  simp only[List.append_nil]at k3;intro next Q hn;unfold Oper.wp;rw[vr ho hfv hent];refine(hfn w (g.fzs q.fz).imm (λb hb=>⟨.inl hb,rfl⟩) (freeze hm hle k2).imm _ x _ hx k3).mono ?_;rintro e w' ⟨v,rfl,hb,hrt,hdr⟩;have hst:Stp m g w g w':=⟨⟨λ_ _ h=>h,λ_ h=>h,λb hx=>hb.block b (hm.imm b hx),λ_ h=>h,λb hx=>hb.block b (hm.len b hx).2⟩,hb.os,hb.tape,hb.output,hb.size,λb hlt _=>hb.block b hlt,hdr⟩;refine hn v w' g (HN (hrt.flat (r8 hfl x))) ?_ hst (λid hu _=>hd id hu);exact⟨λid B hB=>(hm.ok id B hB).le hst.le (λho b hi=>hb.block b ((hm.ok id B hB).place hm.imm (Blk.noAls ho) hi)),hm.dis,hm.own,λb hx=>Nat.lt_of_lt_of_le (hm.imm b hx) hb.size,hm.io,λb hx=>⟨(hm.len b hx).1,Nat.lt_of_lt_of_le (hm.len b hx).2 hb.size⟩⟩
theorem GH(hT:TblOk P T)(hΓ : CtxOk P Γ){cl:Call}(ho:o.op = .call cl):Rule P o vals mm c K (tCall T Γ vals mm c K cl):=by
 obtain⟨callee,args,ats⟩:=cl;unfold tCall
 cases callee with
 | invoke x n=>exact ad
 | builtin b=>
  cases b with
  | len=>
   dsimp only;split
   ·exact Hj hT ho
   ·exact ad
  | append=>
   dsimp only;split
   ·exact Eh hT ho
   ·exact ad
  | copy=>
   dsimp only;split
   ·exact G7 hT ho
   ·exact ad
  | clear=>
   dsimp only;split
   ·exact Fq hT ho
   ·exact ad
  | min=>exact B5 (mx:=false) ho
  | max=>exact B5 (mx:=true) ho
  | _=>exact ad
 | value fn=>
  dsimp only;split
  ·refine AS hΓ ho ?_;intro g w a hr;rw[xn ho]at hr;obtain⟨h1,h2⟩:=aL.1 hr
   exact⟨[],[],IM h1,by simpa using h2⟩
  ·refine AS hΓ ho ?_;intro g w a hr;rw[xn ho]at hr;obtain⟨h1,h2⟩:=aL.1 hr;generalize a.eval fn=fv at h1 ⊢
   cases h1 with
   | clo k1 k2 k3 k4=>exact⟨_,_,rfl,xb (xb ⟨k1,k3⟩ h2) ⟨k2,k4⟩⟩
  ·exact Fk ho rfl
  ·exact ad
theorem n_(hT:TblOk P T)(hΓ : CtxOk P Γ):Rule P o vals mm c K (tOp T Γ vals mm c K o.op):=by
 unfold tOp
 cases ho:o.op with
 | move x=>
  dsimp only;split
  ·exact Cu (.inl ho) rfl
  ·exact ad
 | assign x=>
  dsimp only;split
  ·exact Cu (.inr ho) rfl
  ·exact ad
 | pick x y z=>exact GL ho
 | alloc e=>exact FV hT ho
 | box e x=>exact Ho hT ho
 | build t p=>exact FY hT ho
 | buildSlice t l p=>exact au (λ_=>zo hT ho) (λ_=>zV hT ho)
 | load t x=>exact Gd hT ho
 | store t x y=>exact Fm hT ho
 | nilCheck x=>exact CF ho
 | binOp op t x y u=>exact Ib hT ho
 | unOp op t x=>exact I7 ho
 | convert s d x=>exact GD hT ho
 | makeFunc fn f cs=>exact GU ho
 | makeSlice t x y=>
  refine au (λ_=>?_) (λ_=>BV hT ho)
  cases hl:uh T t x y with
  | some n=>exact Fj hT ho hl
  | none=>exact BV hT ho
 | slice t x lo hi mx=>
  cases mx with
  | none=>exact au (λhc=>GT hT ho hc) (λ_=>FN hT ho)
  | some _=>exact ad
 | fieldAddr s x f=>exact FJ hT ho
 | field s x f=>exact G_ hT ho
 | indexAddr t x y=>exact Bt hT ho
 | index t x y=>exact Fu hT ho
 | extract x i=>exact Dg ho
 | call cl=>exact GH hT hΓ ho
 | makeMap t r=>
  cases r with
  | none=>exact CR hT ho
  | some _=>exact ad
 | lookup t x y ok=>exact Es hT ho
 | mapUpdate t x y z=>exact BM hT ho
 | _=>exact ad
theorem HB{x:Option R}(h:Rule P o (vals.map (resD mm)) mm c K x):Rule P o vals mm c K x:=by intro r hr;obtain⟨res,h1,h2⟩:=h r hr;exact⟨res,h1,λown g w a m u hle hm hd hall hfr hrep=>h2 own g w a m u hle hm hd hall hfr (G9 hm hle hrep)⟩
end
set_option linter.unusedVariables false
set_option linter.unusedSimpArgs false
section
variable{F:Fam}{P:Program}{T:TypeId→Option (TI F)}{Γ : Ctx F}{o:Oper}{vals:List (Dat F)}{mm:Nat→Option (Blk F)}{c:Nat}{R:Type}{K:Res F→Option R}
variable{own:Ow}{g:G}{w:World}{m:Nat→Option (Blk F)}{u:Nat→Bool}{a:Act}
theorem MLe.upd:∀{l:List (Nat×Option (Blk F))} {mm m:Nat→Option (Blk F)},MLe mm m→MLe (updM mm l) (updM m l)
 | [],_,_,h=>h
 | (id,B)::r,mm,m,h=>by
  simp only[updM];refine MLe.upd (l:=r) λx B' hx=>?_;by_cases hb:Nat.beq id x=true
  ·rw[if_pos hb]at hx ⊢;exact hx
  ·rw[if_neg hb]at hx ⊢;exact h x B' hx
theorem Iu{pre:List (Nat×Option (Blk F))}{k:Nat}{g2:G}{u2:Nat→Bool}{res:Res F}(hl:Le g w g2 w)
  (hown:∀id B,updM m pre id=some B→B.owned=true→∀b,g2.blk id b→∃id' B',m id'=some B'∧B'.owned=true∧g.blk id' b)
  (hu:∀id,u id=false→(id<c∨c+k≤id)→u2 id=false) (h:Outc P own (updM m pre) u2 g2 w o a (c+k) res):Outc P own m u g w o a c ⟨res.val,pre++res.mw,k+res.nu⟩:=by
 intro next Q hn
 refine h next Q λv w' g' h1 h2 h3 h4=>hn v w' g' h1 (by rw[dw];exact h2) ⟨hl.trans h3.le,h3.os,h3.tape,h3.output,h3.size,?_,h3.drawn⟩ ?_
 ·intro b hb hno;refine h3.frame b hb λid B hB ho hbk=>?_;obtain⟨id',B',k1,k2,k3⟩:=hown id B hB ho b hbk;exact hno id' B' k1 k2 k3
 ·intro id hi hr;have hr:id<c∨c+(k+res.nu)≤id:=hr
  exact h4 id (hu id hi (by omega)) (by omega)
theorem IJ(hm:MemOk own g w m){id i:Nat}{t:Ty}{l:List (ET F t)}{ks:List Nat}{rs:List (Blk F)}{g2:G}{B0:Blk F}(hB:m id=some B0)(ho:B0.owned=true)(hf:∀j,j<ks.length+1→g.ids (c+j)=none)(hrs:rs.length=ks.length)
  (hblk:∀y b',g2.blk y b'→(g.blk y b'∧¬ (c≤y∧y<c+ks.length+1))∨g.blk id b') :
  ∀y B,updM m (takeW id c t l i ks rs) y=some B→B.owned=true→∀b,g2.blk y b→∃id' B',m id'=some B'∧B'.owned=true∧g.blk id' b:=by
 intro y B hy hoB b hb;rcases hblk y b hb with⟨h1,h2⟩ | h1
 ·refine⟨y,B,?_,hoB,h1⟩
  have hid:y≠id:=by rintro rfl;have e1:takeW y c t l i ks rs=((y,none)::(c,some (.lrow t l i ks))::blks (nmF (c+1) rs))++[(y,some (.als c l.length))]:=rfl;rw[e1,dw]at hy;simp only[updM]at hy;rw[if_pos (Nat.beq_refl y)]at hy;cases hy;cases hoB
  rw[cx]at hy
  ·exact hy
  ·intro hk;simp only[takeW,List.cons_append,List.map_cons,List.map_append,List.mem_cons,List.mem_append,List.map_nil,List.not_mem_nil,or_false]at hk;rcases hk with rfl | rfl | hk | rfl
   ·exact hid rfl
   ·exact h2 ⟨Nat.le_refl _,by omega⟩
   ·obtain⟨p,hp,hp2⟩:=List.mem_map.1 hk;obtain⟨q,hq,hq2⟩:=List.mem_map.1 hp;obtain⟨j,hj1,hj2⟩:=A6 hq;have hjl:=(LQ.1 hj2).1;subst hq2;simp only at hp2
    exact h2 ⟨by omega,by omega⟩
   ·exact hid rfl
 ·exact⟨id,B0,hB,ho,h1⟩
theorem Hs{id sz i off:Nat}{v:Value}(h:RepD (F:=F) P g w (.c (.nsl id sz i off)) v):∃b c' n pl,g.ids id=some (some (b,c',n))∧n.2[i*sz+off]? = some pl∧OwnV (lift1 pl) v:=by
 cases h with | c h=>cases h with | nsl h hk hv=>exact⟨_,_,_,_,h,hk,hv⟩
theorem FO(hT:TblOk P T)(hΓ : CtxOk P Γ){id sz i off:Nat}{rest:List (Dat F)}(hv:vals = .c (.nsl id sz i off)::rest):Rule P o vals mm c K (tAppN T Γ vals mm c K o.op id sz i off):=by
 unfold tAppN;split
 ·rename_i t l hrow;refine au (λhsz=>?_) (λ_=>ad);subst hsz;refine ax λx hx=>?_;split
  ·rename_i t2 l2 hd;intro r hr;obtain⟨res,h1,h2⟩:=n_ hT hΓ r hr;refine⟨_,h1,?_⟩;intro own g w a m u hle hm hdm hall hfr hrep;subst hv;obtain⟨v0,vs,e,hv0,hvs⟩:=gO hrep
   have hfree:∀j,j < [off].length+1→g.ids (c+j)=none:=λj hj=>hdm _ (hfr j (by simp only[List.length_singleton]at hj;simp only;omega))
   have hofl:off<szT F t:=by rw[← aN F t x];exact(LQ.1 hd).1
   obtain⟨g2,b,cap,n,k1,k2,k3,k4,k5,k6,k7,k8,k9,k10⟩:=BT (c:=c) (ks:=[off]) (rs:=[.row t2 l2]) hm hall (hle _ _ hrow) hx (by simp) rfl (λj B hj=>by
    cases j with
    | zero=>simp only[List.getElem?_cons_zero,Option.some.injEq]at hj;subst hj;exact⟨off,t2,l2,rfl,rfl,hd⟩
    | succ j=>simp at hj) (by intro q hq;rw[LS]at hq;subst hq;exact hofl) hfree
   obtain⟨b',c',n',pl,p1,p2,p3⟩:=Hs hv0;rw[k6]at p1;cases p1;have hn1:=k8 0 off rfl;rw[p2,Option.getD_some]at hn1
   have hx2:RepD (F:=F) P g2 w (.c (.wsl (c+1))) v0:=by
    refine .c ?_
    cases pl with
    | none=>obtain⟨p,rfl⟩:=p3;exact .wsl0 p hn1
    | some q=>obtain⟨b2,cap2,n2⟩:=q;simp only[lift1,OwnV]at p3;subst p3;obtain⟨t',l',hc,r1,r2,r3,_⟩:=OwnN.sub k9 p2;cases r1;exact .wsl hn1 r2 r3
   have hu2:∀y,(u y||(decide (c≤y)&&decide (y<c+2)))=false→g2.ids y=none:=by
    intro y hy;simp only[Bool.or_eq_false_iff,Bool.and_eq_false_iff,decide_eq_false_iff_not]at hy
    rw[k5 y (by simp only[List.length_singleton];omega)]
    exact hdm y hy.1
   have hfr2:∀k,k<res.nu→(u (c+2+k)||(decide (c≤c+2+k)&&decide (c+2+k<c+2)))=false:=by
    intro k hk
    have:=hfr (2+k) (by simp only;omega)
    rw[show c+2+k=c+(2+k)by omega,this]
    simp
   have:=h2 own g2 w a (updM m (takeW id c t l i [off] [.row t2 l2])) (λy=>u y||(decide (c≤y)&&decide (y<c+2))) hle.upd k2 hu2 hall hfr2 (by
    rw[e]
    exact aL.2 ⟨hx2,by show RepDs P g2 w rest vs;exact⟨hvs.1,λk d x a b=>(hvs.2 k d x a b).le k1⟩⟩)
   exact Iu (k:=2) k1 (IJ hm (hle _ _ hrow) rfl hfree rfl k10) (λy hy hr=>by simp only[hy,Bool.false_or,Bool.and_eq_false_iff,decide_eq_false_iff_not];omega) this
  ·exact ad
 ·exact ad
theorem zG{α : Type}{l v:List α}{p:Nat}(h:p+v.length≤l.length)(k:Nat) :
  (l.take p++v++l.drop (p+v.length))[k]? = if p≤k∧k<p+v.length then v[k - p]? else l[k]?:=by
 have h1:(l.take p).length=p:=by rw[List.length_take];omega
 by_cases hk:k<p
 ·rw[if_neg (by omega),List.append_assoc,List.getElem?_append_left (by omega),List.getElem?_take,if_pos hk]
 ·rw[List.append_assoc,List.getElem?_append_right (by omega),h1]
  by_cases hk2:k - p<v.length
  ·rw[if_pos (by omega),List.getElem?_append_left hk2]
  ·rw[if_neg (by omega),List.getElem?_append_right (by omega),List.getElem?_drop]
   congr 1
   omega
theorem H0{t:Ty}{l:List (ET F t)}{i off:Nat}{x y:ET F t}{ds:List (ND F)}(hx:l[i]? = some x)(h3:off+ds.length≤szT F t)(hy:decT F t ((encT F t x).take off++ds++(encT F t x).drop (off+ds.length))=some y)
  {k:Nat} {d:ND F} (hk:(cells F t (l.set i y))[k]? = some d) :
  (∃j d0,j<ds.length∧k=i*szT F t+off+j∧ds[j]? = some d0∧NLe d0 d)∨((k<i*szT F t+off∨i*szT F t+off+ds.length≤k)∧∃d0,(cells F t l)[k]? = some d0∧NLe d0 d):=by
 rcases pC hx hk with⟨j,rfl,hj⟩ | ⟨h,h'⟩
 ·have hl:=bG F hy;have hels:(encT F t x).length=szT F t:=aN F t x
  have hjl:j<szT F t:=by rw[← aN F t y];exact(LQ.1 hj).1
  have hov:=zG (l:=encT F t x) (v:=ds) (p:=off) (by omega) j
  by_cases hin:off≤j∧j<off+ds.length
  ·rw[if_pos hin]at hov
   have hd0:ds[j - off]? = some ds[j - off]:=LP (by omega)
   exact .inl ⟨j - off,_,by omega,by omega,hd0,hl.2 j _ d (hov.trans hd0) hj⟩
  ·rw[if_neg hin]at hov
   have hd0:(encT F t x)[j]? = some (encT F t x)[j]:=LP (by omega)
   exact .inr ⟨by omega,_,aM hx hd0,hl.2 j _ d (hov.trans hd0) hj⟩
 ·exact .inr ⟨by omega,d,h',.refl _⟩
def pl1(g:G):Option Nat→Option (Nat×Nat×Nat)
 | none=>none
 | some nm=>match g.ids nm with
  | some (some (b,cap,n))=>some (b,cap,n.1)
  | _=>none
theorem mJ{y:Cel F}{r:List (Cel F)}{ds:List (ND F)}{os:List (Option Nat)}(h:dt mm (y::r)=some (ds,os)):∃d o ds' os',pg mm y=some (d,o)∧dt mm r=some (ds',os')∧ds=d::ds'∧os=o::os':=by
 simp only[dt]at h;split at h
 ·cases h
 ·rename_i d o h1;split at h
  ·cases h
  ·rename_i ds' os' h2;cases h;exact⟨d,o,ds',os',h1,h2,rfl,rfl⟩
theorem oG:∀{cs:List (Cel F)} {ds:List (ND F)} {os:List (Option Nat)},dt mm cs=some (ds,os)→ds.length=cs.length∧os.length=cs.length
 | [],ds,os,h=>by simp only[dt,Option.some.injEq]at h;cases h;exact⟨rfl,rfl⟩
 | y::r,ds,os,h=>by obtain⟨d,o,ds',os',h1,h2,rfl,rfl⟩:=mJ h;obtain⟨k1,k2⟩:=oG h2;simp[k1,k2]
theorem yS:∀{cs:List (Cel F)} {ds:List (ND F)} {os:List (Option Nat)},dt mm cs=some (ds,os)→∀{j:Nat}{d:ND F}{o:Option Nat},ds[j]? = some d→os[j]? = some o→∃y,cs[j]? = some y∧pg mm y=some (d,o)
 | [],ds,os,h,j,d,o,hd,ho=>by simp only[dt,Option.some.injEq]at h;cases h;simp at hd
 | y::r,ds,os,h,j,d,o,hd,ho=>by
  obtain⟨d',o',ds',os',h1,h2,rfl,rfl⟩:=mJ h
  cases j with
  | zero=>simp only[List.getElem?_cons_zero,Option.some.injEq]at hd ho;subst hd;subst ho;exact⟨y,rfl,h1⟩
  | succ j=>exact yS h2 (by simpa using hd) (by simpa using ho)
theorem AJ{y:Cel F}{d:ND F}{nm:Nat}(h:pg mm y=some (d,some nm)):∃t l,y = .wsl nm∧d = .sl t l∧mm nm=some (.row t l):=by
 unfold pg at h;split at h
 ·rename_i id;split at h
  ·rename_i t l hrow;cases h;exact⟨t,l,rfl,rfl,hrow⟩
  ·cases h
 ·split at h
  ·cases h
  ·split at h<;>cases h
 ·cases h
theorem p8:∀{cs:List (Cel F)} {ds:List (ND F)} {os:List (Option Nat)},dt mm cs=some (ds,os)→cs.all Cel.noAny=true
 | [],_,_,_=>rfl
 | y::r,ds,os,h=>by
  obtain⟨d,o,ds',os',h1,h2,rfl,rfl⟩:=mJ h;simp only[List.all_cons,Bool.and_eq_true];refine⟨?_,p8 h2⟩
  cases y<;>first | rfl | simp[pg]at h1
theorem xC:∀{cs:List (Cel F)} {ds:List (ND F)} {os:List (Option Nat)},dt mm cs=some (ds,os)→∀id,some id∈os→∃t l,mm id=some (.row t l)
 | [],ds,os,h,id,hid=>by simp only[dt,Option.some.injEq]at h;cases h;simp at hid
 | y::r,ds,os,h,id,hid=>by
  obtain⟨d,o,ds',os',h1,h2,rfl,rfl⟩:=mJ h;rcases List.mem_cons.1 hid with rfl | hid
  ·obtain⟨t,l,_,_,h3⟩:=AJ h1;exact⟨t,l,h3⟩
  ·exact xC h2 id hid
theorem FF(hm:MemOk own g w m)(hle:MLe mm m){y:Cel F}{d0 d:ND F}{o:Option Nat}(h:pg mm y=some (d0,o))(hd:NLe d0 d){x:Value}(hr:RepC g w y x)(hnn:d≠.nl):OwnC w g.imm d x (pl1 g o):=by
 cases o with
 | some nm=>
  obtain⟨t,l,rfl,rfl,hrow⟩:=AJ h;cases hd;rcases hm.ok nm _ (hle _ _ hrow)with⟨k1,k2⟩ | ⟨b,cap,cur,e,k1,k2,k3,k4,k5,k6⟩
  ·subst k2;rcases aU hr with⟨hi,p,rfl⟩ | ⟨b,c,n,hi,h1,h2,rfl⟩
   ·simp only[pl1,k1];exact⟨rfl,p,rfl⟩
   ·rw[k1]at hi;cases hi
  ·rcases aU hr with⟨hi,p,rfl⟩ | ⟨b',c',n,hi,h1,h2,rfl⟩
   ·rw[k1]at hi;cases hi
   ·rw[k1]at hi;cases hi;simp only[pl1,k1];exact⟨⟨rfl,k3,k4,cur,e,k2,k5,k6⟩,rfl⟩
 | none=>
  unfold pg at h;split at h
  ·split at h<;>cases h
  ·rename_i d1;split at h
   ·cases h
    cases hd with
    | refl=>exact absurd rfl hnn
    | nl t ht=>obtain⟨p,rfl⟩:=pn (P:=default) (.c hr);exact⟨rfl,p,rfl⟩
   ·split at h
    ·rename_i hf;cases h
     cases hd with
     | refl=>
      cases d0 with
      | sl t l=>simp[NID.flat]at hf
      | nl=>exact absurd rfl hnn
      | _=>exact⟨rfl,rfl,bT hr⟩
     | nl=>simp[NID.flat]at hf
    ·cases h
  ·cases h
theorem yh(hm:MemOk own g w m)(hle:MLe mm m):∀{os:List (Option Nat)},(∀id,some id∈os→∃t l,mm id=some (.row t l))→nbl (os.map (pl1 g))=plBlks (os.map (plOf g))
 | [],_=>rfl
 | none::os,h=>by
  simp only[List.map_cons,pl1,plOf,nbl,plBlks]
  exact yh hm hle (λid hid=>h id (by simp[hid]))
 | some nm::os,h=>by
  have ih:=yh hm hle (os:=os) (λid hid=>h id (by simp[hid]))
  obtain⟨t,l,hrow⟩:=h nm (by simp)
  rcases hm.ok nm _ (hle _ _ hrow)with⟨k1,k2⟩ | ⟨b,cap,cur,e,k1,k2,k3,k4,k5,k6⟩
  ·simp only[List.map_cons,pl1,plOf,k1,Option.getD_some,nbl,plBlks];exact ih
  ·simp only[List.map_cons,pl1,plOf,k1,Option.getD_some,nbl,plBlks,List.nil_append];rw[ih]
theorem EI(hm:MemOk own g w m)(hle:MLe mm m)(hall:∀b,w.heap.size≤b→own.o b){t:Ty}{id i off p:Nat}(hp:p=i*szT F t+off){l:List (ET F t)}{x y:ET F t}{C:Nat→ND F→Value→Option (Nat×Nat×Nat)→Prop}{C':World→Nat→ND F→Value→Option (Nat×Nat×Nat)→Prop}{B0 B':Blk F}{b cap:Nat}{n:Nat×NS}
  (hB:m id=some B0) (hB0:B0.owned=true) (hid:g.ids id=some (some (b,cap,n))) (hO:OwnG w t l C (some (b,cap,n))) (hx:l[i]? = some x) {cs:List (Cel F)} {ds:List (ND F)} {os:List (Option Nat)} (hst:dt mm cs=some (ds,os))
  (hnd:cA (id::somes os)=true) (h3:off+ds.length≤szT F t) (hy:decT F t ((encT F t x).take off++ds++(encT F t x).drop (off+ds.length))=some y) (hnn:∀d∈encT F t y,d≠.nl)
  {vs:List Value} (hvl:vs.length=cs.length) (hv:∀(k:Nat)(c:Cel F)(z:Value),cs[k]? = some c→vs[k]? = some z→RepC g w c z) {cur:List Value} {e:TypeId} (hb:w.heap[b]? = some (.cells ⟨cur⟩ e (0,0))) (hf:g.ids c=none)
  (hB1:∀g' w',g'.ids c=some (some (b,cap,n.1,n.2.take (p)++os.map (pl1 g)++n.2.drop (p+ds.length)))→g'.imm=g.imm→OwnG w' t (l.set i y) (C' w') (some (b,cap,n.1,n.2.take (p)++os.map (pl1 g)++n.2.drop (p+ds.length)))→BlkOk g' w' c B') (hB2:B'.owned=true)
  (hC1:∀(w':World) k d z pl,(∀b',g.imm b'→w'.heap[b']? = w.heap[b']?)→(∀b' c',pl=some (b',c')→w'.heap[b']? = w.heap[b']?)→p≤k→k<p+ds.length→OwnC w g.imm d z pl→C' w' k d z pl)
  (hC2:∀(w':World) k d0 d z pl,(∀b',g.imm b'→w'.heap[b']? = w.heap[b']?)→(∀b' c',pl=some (b',c')→w'.heap[b']? = w.heap[b']?)→(k<p∨p+ds.length≤k)→(cells F t l)[k]? = some d0→NLe d0 d→C k d0 z pl→C' w' k d z pl) :
  ∃g',MemOk own g' (w.setRow b ⟨cur.take (p)++vs++cur.drop (p+ds.length)⟩) (updM m (putW id c l.length os B'))∧Stp m g w g' (w.setRow b ⟨cur.take (p)++vs++cur.drop (p+ds.length)⟩)∧∀y,y≠c→g'.ids y=g.ids y:=by
 obtain⟨w',hw'⟩:∃w',w'=w.setRow b ⟨cur.take p++vs++cur.drop (p+ds.length)⟩:=⟨_,rfl⟩;obtain⟨ns,hns⟩:∃ns,ns=n.2.take p++os.map (pl1 g)++n.2.drop (p+ds.length):=⟨_,rfl⟩;rw[← hw'];rw[← hns]at hB1;obtain⟨q1,q2,q3,q4,q5,cur',e',q6,q7,q8⟩:=hO;rw[hb]at q6;cases q6;obtain⟨hdl,hol⟩:=oG hst
 have hol2:os.length=ds.length:=by omega
 have hvl2:vs.length=ds.length:=by omega
 have hile:i<l.length:=(LQ.1 hx).1
 have hbig:p+ds.length≤(cells F t l).length:=by rw[dL];have:(i+1)*szT F t≤l.length*szT F t:=Nat.mul_le_mul_right _ hile;rw[Nat.succ_mul]at this;omega
 have hcur:(cells F t l).length≤cur.length:=by rw[q7,dL];exact Nat.mul_le_mul_right _ q2
 have hsame:∀b',b'≠b→w'.heap[b']? = w.heap[b']?:=λb' h=>by rw[hw'];exact setRow_other w b b' _ h
 have hnew:w'.heap[b]? = some (.cells ⟨cur.take p++vs++cur.drop (p+ds.length)⟩ e (0,0)):=by rw[hw'];exact setRow_heap w b _ _ _ _ hb
 have hsz:w'.heap.size=w.heap.size:=by rw[hw'];simp[World.setRow]
 have hrows:=xC hst;have hblkb:g.blk id b:=G.blk_main hid
 have hosB:∀id',some id'∈some id::os→∃B,m id'=some B∧B.owned=true:=by
  intro id' h;rcases List.mem_cons.1 h with h | h
  ·cases h;exact⟨_,hB,hB0⟩
  ·obtain⟨t',l',h'⟩:=hrows id' h;exact⟨_,hle _ _ h',rfl⟩
 have hplo:plBlks ((some id::os).map (plOf g))=b::(nbl n.2++plBlks (os.map (plOf g))):=by simp[plOf,hid,plBlks]
 have hN0:=fw (os:=some id::os) hm (eb hnd) hosB
 have hownB:∀b',b'∈plBlks ((some id::os).map (plOf g))→own.o b'∧¬ g.imm b'∧b'<w.heap.size∧¬ g.len b':=by intro b' h;obtain⟨id',h1,h2⟩:=bk.1 h;obtain⟨B,h4,h5⟩:=hosB id' h1;have:=hm.own id' B b' h4 h5 h2;exact⟨this.1,this.2,(hm.ok id' B h4).place hm.imm (Blk.noAls h5) h2,λhl=>(hm.len b' hl).1 this.1⟩
 have hbin:b∈plBlks ((some id::os).map (plOf g)):=by rw[hplo];simp
 have himm:∀b',g.imm b'→w'.heap[b']? = w.heap[b']?:=λb' h=>hsame b' (λe=>(hownB b hbin).2.1 (e▸h))
 have hlns:p+ds.length≤n.2.length:=by rw[q4];exact hbig
 have hsplit:nbl n.2=nbl (n.2.take p)++(nbl ((n.2.drop p).take ds.length)++nbl (n.2.drop (p+ds.length))):=by rw[← dX,← dX,← List.drop_drop,List.take_append_drop,List.take_append_drop]
 have hnbl:nbl ns=nbl (n.2.take p)++(plBlks (os.map (plOf g))++nbl (n.2.drop (p+ds.length))):=by rw[hns,dX,dX,yh hm hle hrows,List.append_assoc]
 have hperm:(b::(nbl n.2++plBlks (os.map (plOf g)))).Perm ((b::nbl ns)++nbl ((n.2.drop p).take ds.length)):=by rw[hsplit,hnbl];simp only[List.cons_append,List.append_assoc];refine List.Perm.cons _ (List.Perm.append_left _ ?_);refine(List.perm_append_comm_assoc _ _ _).trans ?_;refine((List.perm_append_comm (l₁:=nbl ((n.2.drop p).take ds.length))).append_left _).trans ?_;rw[← List.append_assoc,← List.append_assoc];exact List.perm_append_comm.append_right _
 have hnodup:(b::nbl ns).Nodup:=by have:=hperm.nodup_iff.1 (hplo▸hN0);exact(List.nodup_append.1 this).1
 have hsub:∀b',b'∈b::nbl ns→b'∈plBlks ((some id::os).map (plOf g)):=by intro b' h;rw[hplo];exact hperm.mem_iff.2 (List.mem_append_left _ h)
 have hnlen:ns.length=(cells F t (l.set i y)).length:=by rw[hns,dL,List.length_set,← dL];simp only[LR,List.length_take,List.length_drop,List.length_map];omega
 have hOw:OwnG w' t (l.set i y) (C' w') (some (b,cap,n.1,ns)):=by
  refine⟨by rw[List.length_set];exact q1,by rw[List.length_set];exact q2,q3,hnlen,hnodup,_,e,hnew,by simp only[LR,List.length_take,List.length_drop];omega,?_⟩
  intro k d z pl p1 p2 p3
  have hcurk:=zG (l:=cur) (v:=vs) (p:=p) (by omega) k
  have hnsk:=zG (l:=n.2) (v:=os.map (pl1 g)) (p:=p) (by rw[List.length_map];omega) k
  rw[List.length_map,hol2]at hnsk;rw[hvl2]at hcurk;rw[hcurk]at p2;dsimp only at p3;rw[hns,hnsk]at p3;rcases H0 hx h3 hy p1 with⟨j,d0,j1,j2,j3,j4⟩ | ⟨j1,d0,j2,j3⟩
  ·rw[← hp]at j2
   rw[if_pos (by omega)]at p2 p3
   have ej:k - p=j:=by omega
   rw[ej]at p2 p3;rw[List.getElem?_map]at p3;obtain⟨o',ho',rfl⟩:=Option.map_eq_some_iff.1 p3;obtain⟨cc,hcc,hce⟩:=yS hst j3 ho'
   have hdnn:d≠.nl:=by
    rcases pC hx p1 with⟨jj,hjj,hd⟩ | ⟨hout,_⟩
    ·exact hnn d (List.mem_of_getElem? hd)
    ·omega
   have hC:=FF hm hle hce j4 (hv j cc z hcc p2) hdnn
   refine hC1 w' k d z _ himm ?_ (by omega) (by omega) hC
   rintro b' c' hpl;refine hsame b' ?_;rintro rfl
   have hin:b'∈plBlks (os.map (plOf g)):=by
    rw[← yh hm hle hrows]
    exact eU (k:=j) (by rw[List.getElem?_map,ho'];exact congrArg some hpl)
   rw[hplo]at hN0;exact(List.nodup_cons.1 hN0).1 (List.mem_append_right _ hin)
  ·rw[← hp]at j1
   rw[if_neg (by omega)]at p2 p3
   refine hC2 w' k d0 d z pl himm ?_ j1 j2 j3 (q8 k d0 z pl j2 p2 p3);rintro b' c' rfl;refine hsame b' ?_;rintro rfl;exact(List.nodup_cons.1 q5).1 (eU p3)
 have hleB:Le g w (g.back c [some (b,cap,n.1,ns)] g.imm) w':=by
  refine⟨λy r hy=>?_,λ_ h=>h,himm,λ_ h=>h,λb' hl=>hsame b' (λe=>(hownB b hbin).2.2.2 (e▸hl))⟩
  have hyc:¬ (c≤y∧y<c + [(some (b,cap,n.1,ns):Pl)].length):=by
   intro hc
   have:y=c:=by simp only[List.length_singleton]at hc;omega
   subst this;rw[hf]at hy;cases hy
  rw[cy hyc];exact hy
 have hc0:(g.back c [some (b,cap,n.1,ns)] g.imm).ids c=some (some (b,cap,n.1,ns)):=by have:=xU (g:=g) (c:=c) (pls:=[some (b,cap,n.1,ns)]) (I:=g.imm) 0 _ rfl;simpa using this
 have hPl1:plBlks ([]:List Pl)++plBlks [some (b,cap,n.1,ns)]=b::nbl ns:=by simp[plBlks]
 have hfk:∀k,k < [(some (b,cap,n.1,ns):Pl)].length→g.ids (c+k)=none:=by
  intro k hk
  have:k=0:=by simp only[List.length_singleton]at hk;omega
  subst this;exact hf
 have hM:=u6 (g1:=g) (m1:=m) (os:=some id::os) (bx:=[]) (bxs:=[]) (pls':=[some (b,cap,n.1,ns)]) (bs:=[(c,B')]) (imm0:=g.imm) (imm':=g.imm) (I:=g.imm) (w':=w') hm hm rfl rfl hall rfl
  hfk
  (λid' h=>by obtain⟨B,h1,h2⟩:=hosB id' h;exact⟨B,h1,h1,h2⟩) (λid' h=>by simp at h) rfl ⟨hN0,λb' h=>(hownB b' h).2.1,λb' h=>(hownB b' h).2.2.1⟩ (λ_ h=>h) (by rw[hsz];exact Nat.le_refl _) (λb' _ hno=>hsame b' (λe=>hno (e▸hbin))) (λ_ h=>h) (λ_ h=>h) (λb h=>.inl h) (λb' h=>by rw[hsz];exact hm.imm b' h)
  ⟨by rw[hPl1];exact hnodup,λb' h=>(hownB b' (hsub b' (hPl1▸h))).2.1,λb' h=>by rw[hsz];exact(hownB b' (hsub b' (hPl1▸h))).2.2.1⟩
  (λb' h=>.inl (hsub b' (hPl1▸h))) (λp hp=>by rw[LS]at hp;subst hp;exact⟨hB2,hB1 _ _ hc0 rfl hOw,.inl ⟨0,rfl,by simp⟩⟩)
 refine⟨g.back c [some (b,cap,n.1,ns)] g.imm,?_,⟨hleB,by rw[hw'];rfl,by rw[hw'];rfl,by rw[hw'];rfl,by rw[hsz];exact Nat.le_refl _,λb' _ hno=>hsame b' (λe=>hno id B0 hB hB0 (e▸hblkb)),by rw[hw'];exact Nat.le_refl _⟩,λy hy=>cy (by simp only[List.length_singleton];omega)⟩
 have:=hM.als (id:=id) (k:=c) (n:=l.length) (.inl ⟨b,cap,n,(n.1,ns),hleB.ids _ _ hid,hc0,rfl,q1⟩)
 have e1:putW id c l.length os B'=(nones (somes (some id::os))++blks [(c,B')])++[(id,some (.als c l.length))]:=by simp[putW,somes,blks]
 rw[e1,dw];exact this
theorem tStoN_rule(hT:TblOk P T){ty:TypeId}{X Y:Operand}(ho:o.op = .store ty X Y){id sz i off:Nat}{v:Dat F}(hv:vals = [.c (.pel id sz i off),v]){t:Ty}{l:List (ET F t)}{i0:Nat}{ks:List Nat}
  (hk:(mm id=some (.nrow t l)∧ks = [])∨mm id=some (.lrow t l i0 ks)):Rule P o vals mm c K (tStoN T mm c K ty id sz i off v t l i0 ks):=by
 subst hv;unfold tStoN;split
 ·exact ad
 ·rename_i ti hti
  have key:∀{w:World}{a:Act}{b q:Nat}{cur:List Value} {e:TypeId} {vs:List Value},a.eval X = .pointer (some ⟨b,q,none⟩)→w.heap[b]? = some (.cells ⟨cur⟩ e (0,0))→(a.eval Y).cells.toList=vs→vs.length=ti.size→
    (∀v∈vs,v.oneCell'=true)→q+vs.length≤cur.length→(execOp a.eval o).run P w = .ok .skip (w.setRow b ⟨cur.take q++vs++cur.drop (q+vs.length)⟩):=by
   intro w a b q cur e vs e1 hb e2 hl h1 hle;have hsz:=bi hT hti w
   have hs:=run_storeCells_at (P:=P) b q e vs 0 ⟨cur⟩ w hb (by simpa using hle) h1
   simp only[Nat.add_zero]at hs
   have hsize:(a.eval Y).cells.size=ti.size:=by rw[← Array.length_toList,e2,hl]
   simp only[execOp,ho,e1,Instr.storeAt,Instr.sureAddr,Sem.run_bind,Sem.run_pure,Result.andThen_ok,storeVar,hsz,hsize,ne_eq,not_true_eq_false,if_false,e2,hs]
  split
  ·exact ad
  ·rename_i ds os hst;refine au (λhc=>?_) (λ_=>ad);simp only[Bool.and_eq_true,decide_eq_true_eq,beq_iff_eq,Nat.blt_eq]at hc;obtain⟨⟨⟨⟨⟨h1,h2⟩,h3⟩,h4⟩,h5⟩,h6⟩:=hc;have h3:=Nat.le_of_ble_eq_true h3;subst h2
   cases hcb:(ks.isEmpty||Nat.beq i i0)with
   | false=>exact ad
   | true=>
   simp only[cond_true];refine ax λx hx=>?_;split
   ·rename_i y hy;intro r hr;refine⟨_,hr,?_⟩;intro own g w a m u hle hm hdm hall hfr hrep;rw[ho]at hrep;simp only[Op.operands,List.map_cons,List.map_nil]at hrep;obtain⟨hxr,hyr⟩:=reps2 hrep;obtain⟨b,cn,hi,e1⟩:=d9 hxr;obtain⟨cap,n⟩:=cn;obtain⟨hdl,hol⟩:=oG hst;have hlt:i<l.length:=(LQ.1 hx).1
    obtain⟨r1,r2,r3⟩:=jn hyr (p8 hst) (by omega)
    have hf:g.ids c=none:=hdm c (hfr 0 (by simp))
    have hrow:∃(B0:Blk F)(C:Nat→ND F→Value→Option (Nat×Nat×Nat)→Prop),m id=some B0∧B0.owned=true∧OwnG w t l C (some (b,cap,n))∧
      ∀k d z pl,(k<i*szT F t+off∨i*szT F t+off+ds.length≤k)→C k d z pl→OwnC w g.imm d z pl:=by
     rcases hk with⟨hk,rfl⟩ | hk
     ·obtain⟨pl,k1,k2⟩:=hm.ok id _ (hle _ _ hk);rw[hi]at k1;cases k1;exact⟨_,λ_=>OwnC w g.imm,hle _ _ hk,rfl,k2,λ_ _ _ _ _ h=>h⟩
     ·obtain⟨pl,k1,k2⟩:=hm.ok id _ (hle _ _ hk);rw[hi]at k1;cases k1;refine⟨_,_,hle _ _ hk,rfl,k2,λk d z pl hout hC=>hC.2 ?_⟩;rintro⟨q,hq,hkq⟩
      have hii:i=i0:=by
       rw[Bool.or_eq_true]at hcb;rcases hcb with hcb | hcb
       ·rw[List.isEmpty_iff]at hcb;subst hcb;simp at hq
       ·exact Nat.eq_of_beq_eq_true hcb
      subst hii;have:=List.all_eq_true.1 h6 q hq;simp only[Bool.and_eq_true,Nat.blt_eq]at this;have h7:=Nat.le_of_ble_eq_true this.1;omega
    obtain⟨B0,C,hB,hBo,hO,hC⟩:=hrow;have hO':=hO;obtain⟨q1,q2,q3,q4,q5,cur,e,q6,q7,q8⟩:=hO'
    have hbig:i*szT F t+off+ds.length≤cur.length:=by
     have h8:(i+1)*szT F t≤cap*szT F t:=Nat.mul_le_mul_right _ (by omega)
     rw[Nat.succ_mul]at h8;omega
    have hrun:=key (vs:=(a.eval Y).cells.toList) e1 q6 rfl (by rw[r1,← hdl,h1]) r3 (by rw[r1,← hdl];exact hbig)
    rw[r1,← hdl]at hrun;obtain⟨g',s1,s2,s3⟩:=EI (c:=c) (C:=C) (C':=λw' _=>OwnC w' g.imm) (B':=.nrow t (l.set i y)) hm hle hall (p:=i*szT F t+off) rfl hB hBo hi hO hx hst h5 h3 hy (uu hy) r1 r2 q6 hf
     (λg'' w' k1 k2 k3=>⟨_,k1,by rw[k2];exact k3⟩) rfl (λw' k d z pl k1 k2 _ _ k3=>k3.chg (λ_ h=>h) k1 k2) (λw' k d0 d z pl k1 k2 k3 k4 k5 k6=>by have h9:=hC k d0 z pl k3 k6;rw[zJ k5 h9];exact h9.chg (λ_ h=>h) k1 k2)
    intro next Q hn;unfold Oper.wp;rw[hrun]
    exact hn undef _ g' (.c .any) s1 s2 (λid' hu hr=>by
     have hr:id'<c∨c+1≤id':=hr
     rw[s3 id' (by omega)]
     exact hdm id' hu)
   ·exact ad
theorem tStoM_rule(hT:TblOk P T){ty:TypeId}{X Y:Operand}(ho:o.op = .store ty X Y){id sz i off:Nat}{v:Dat F}(hv:vals = [.c (.pel id sz i off),v]){t:Ty}{l:List (ET F t)}{j:Nat}
  (hk:mm id=some (.mrow t l j)):Rule P o vals mm c K (tStoM T mm c K ty id sz i off v t l j):=by
 subst hv;unfold tStoM;split
 ·exact ad
 ·rename_i ti hti
  have key:∀{w:World}{a:Act}{b q:Nat}{cur:List Value} {e:TypeId} {vs:List Value},a.eval X = .pointer (some ⟨b,q,none⟩)→w.heap[b]? = some (.cells ⟨cur⟩ e (0,0))→(a.eval Y).cells.toList=vs→vs.length=ti.size→
    (∀v∈vs,v.oneCell'=true)→q+vs.length≤cur.length→(execOp a.eval o).run P w = .ok .skip (w.setRow b ⟨cur.take q++vs++cur.drop (q+vs.length)⟩):=by
   intro w a b q cur e vs e1 hb e2 hl h1 hle;have hsz:=bi hT hti w
   have hs:=run_storeCells_at (P:=P) b q e vs 0 ⟨cur⟩ w hb (by simpa using hle) h1
   simp only[Nat.add_zero]at hs
   have hsize:(a.eval Y).cells.size=ti.size:=by rw[← Array.length_toList,e2,hl]
   simp only[execOp,ho,e1,Instr.storeAt,Instr.sureAddr,Sem.run_bind,Sem.run_pure,Result.andThen_ok,storeVar,hsz,hsize,ne_eq,not_true_eq_false,if_false,e2,hs]
  split
  ·exact ad
  ·rename_i ds os hst;refine au (λhc=>?_) (λ_=>ad);simp only[Bool.and_eq_true,decide_eq_true_eq,beq_iff_eq,Nat.blt_eq]at hc;obtain⟨⟨⟨⟨h1,h2⟩,h3⟩,h4⟩,h5⟩:=hc;have h3:=Nat.le_of_ble_eq_true h3;subst h2
   cases hcb:Nat.beq i j with
   | false=>exact ad
   | true=>
   simp only[cond_true];have hij:=Nat.eq_of_beq_eq_true hcb;subst hij;refine ax λx hx=>?_;refine au (λhfl=>?_) (λ_=>ad);split
   ·rename_i y hy;intro r hr;refine⟨_,hr,?_⟩;intro own g w a m u hle hm hdm hall hfr hrep;rw[ho]at hrep;simp only[Op.operands,List.map_cons,List.map_nil]at hrep;obtain⟨hxr,hyr⟩:=reps2 hrep;obtain⟨b,cn,hi,e1⟩:=d9 hxr;obtain⟨cap,n⟩:=cn;obtain⟨hdl,hol⟩:=oG hst;have hlt:i<l.length:=(LQ.1 hx).1
    obtain⟨r1,r2,r3⟩:=jn hyr (p8 hst) (by omega)
    have hf:g.ids c=none:=hdm c (hfr 0 (by simp))
    obtain⟨pl,k1,hO⟩:=hm.ok id _ (hle _ _ hk);rw[hi]at k1;cases k1;have hB:=hle _ _ hk;have hO':=hO;obtain⟨q1,q2,q3,q4,q5,cur,e,q6,q7,q8⟩:=hO'
    have hbig:i*szT F t+off+ds.length≤cur.length:=by
     have h8:(i+1)*szT F t≤cap*szT F t:=Nat.mul_le_mul_right _ (by omega)
     rw[Nat.succ_mul]at h8;omega
    have hrun:=key (vs:=(a.eval Y).cells.toList) e1 q6 rfl (by rw[r1,← hdl,h1]) r3 (by rw[r1,← hdl];exact hbig)
    rw[r1,← hdl]at hrun
    have hflat:∀q d0,(encT F t x)[q]? = some d0→(q<off∨off+ds.length≤q)→d0.flat=true:=by
     intro q d0 hq hout;refine List.all_eq_true.1 hfl d0 ?_;rcases hout with hout | hout
     ·exact List.mem_append_left _ (List.mem_of_getElem? (i:=q) (by rw[List.getElem?_take,if_pos hout];exact hq))
     ·exact List.mem_append_right _ (List.mem_of_getElem? (i:=q - (off+ds.length)) (by rw[List.getElem?_drop];rw[← hq];congr 1;omega))
    have hsz1:(i+1)*szT F t=i*szT F t+szT F t:=Nat.succ_mul _ _;obtain⟨g',s1,s2,s3⟩:=EI (c:=c) (C:=CMix w g.imm (szT F t) i) (C':=λw'=>CMix w' g.imm (szT F t) (i+1)) (B':=.mrow t (l.set i y) (i+1)) hm hle hall (p:=i*szT F t+off) rfl hB rfl hi hO hx hst h5 h3 hy (uu hy) r1 r2 q6 hf
     (λg'' w' k1 k2 k3=>⟨_,k1,by rw[k2];exact k3⟩) rfl (λw' k d z pl k1 k2 p1 p2 k3=>⟨λ_=>k3.chg (λ_ h=>h) k1 k2,λhno=>absurd (by omega) hno⟩) (λw' k d0 d z pl k1 k2 k3 k4 k5 k6=>by
      by_cases hk1:k<i*szT F t
      ·have h9:=k6.1 hk1
       refine⟨λ_=>?_,λhno=>absurd (by omega) hno⟩
       rw[zJ k5 h9];exact h9.chg (λ_ h=>h) k1 k2
      ·have h9:=k6.2 hk1;refine⟨λhlt2=>?_,λ_=>⟨h9.1,(h9.2.mono (λ_ h=>h) k1).nle k5⟩⟩
       obtain⟨d1,hq⟩:∃d1,(encT F t x)[k - i*szT F t]? = some d1:=⟨_,LP (by rw[aN];omega)⟩
       have hcg:=aM hx hq
       rw[show i*szT F t+(k - i*szT F t)=k by omega,k4]at hcg
       have hfd:=hflat _ _ hq (by omega)
       rw[← Option.some.inj hcg]at hfd
       have hd:d=d0:=by
        cases k5 with
        | refl=>rfl
        | nl=>simp[NID.flat]at hfd
       subst hd;obtain⟨rfl,hrI⟩:=h9
       cases d with
       | sl=>simp[NID.flat]at hfd
       | nl=>simp[NID.flat]at hfd
       | _=>exact⟨rfl,rfl,hrI.mono (λ_ h=>h) k1⟩)
    intro next Q hn;unfold Oper.wp;rw[hrun]
    exact hn undef _ g' (.c .any) s1 s2 (λid' hu hr=>by
     have hr:id'<c∨c+1≤id':=hr
     rw[s3 id' (by omega)]
     exact hdm id' hu)
   ·exact ad
theorem sj:∀{cs:List (ND F)} {k0:Nat} {j:Nat} {q:Nat} {B:Blk F},(bj F k0 cs)[j]? = some (q,B)→∃k t l,q=k0+k∧cs[k]? = some (.sl t l)∧B = .row t l
 | [],k0,j,q,B,h=>by simp[bj]at h
 | d::r,k0,j,q,B,h=>by
  have rest:∀{j:Nat},(bj F (k0+1) r)[j]? = some (q,B)→∃k t l,q=k0+k∧(d::r)[k]? = some (.sl t l)∧B = .row t l:=by
   intro j h;obtain⟨k,t,l,h1,h2,h3⟩:=sj h
   exact⟨k+1,t,l,by omega,by simpa using h2,h3⟩
  cases d with
  | sl t l=>
   simp only[bj]at h
   cases j with
   | zero=>
    simp only[List.getElem?_cons_zero,Option.some.injEq,Prod.mk.injEq]at h
    exact⟨0,t,l,by omega,rfl,h.2.symm⟩
   | succ j=>exact rest (by simpa using h)
  | _=>exact rest h
theorem zR:∀{cs:List (ND F)} {k0:Nat},∀q∈(bj F k0 cs).map (·.1),k0≤q∧q<k0+cs.length:=by intro cs k0 q hq;obtain⟨p,hp,rfl⟩:=List.mem_map.1 hq;obtain⟨j,hj⟩:=List.getElem?_of_mem hp;obtain⟨k,t,l,h1,h2,_⟩:=sj (q:=p.1) (B:=p.2) hj;have:=(LQ.1 h2).1;omega
theorem qg:∀{cs:List (ND F)} {k0:Nat},((bj F k0 cs).map (·.1)).Nodup
 | [],k0=>by simp[bj]
 | d::r,k0=>by
  cases d with
  | sl t l=>
   simp only[bj,List.map_cons,List.nodup_cons]
   exact⟨λh=>by have:=zR _ h;omega,qg (cs:=r)⟩
  | _=>exact qg (cs:=r) (k0:=k0+1)
theorem vi:∀{cs:List (ND F)} {k0 c k:Nat} {y:Cel F},(takeC F c cs)[k]? = some y→
  (∃t l j,cs[k]? = some (.sl t l)∧y = .wsl (c+j)∧(bj F k0 cs)[j]? = some (k0+k,.row t l))∨(∃d,cs[k]? = some d∧(∀t l,d≠.sl t l)∧y = .im d)
 | [],k0,c,k,y,h=>by simp[takeC]at h
 | d::r,k0,c,k,y,h=>by
  cases d with
  | sl t l=>
   simp only[takeC]at h
   cases k with
   | zero=>
    simp only[List.getElem?_cons_zero,Option.some.injEq]at h
    exact .inl ⟨t,l,0,rfl,h.symm,by simp[bj]⟩
   | succ k=>
    rcases vi (k0:=k0+1) (cs:=r) (by simpa using h)with⟨t',l',j,h1,h2,h3⟩ | ⟨d,h1,h2,h3⟩
    ·exact .inl ⟨t',l',j+1,by simpa using h1,by rw[h2];congr 1;omega,by simp only[bj,List.getElem?_cons_succ];rw[h3];congr 2;omega⟩
    ·exact .inr ⟨d,by simpa using h1,h2,h3⟩
  | _=>
   simp only[takeC]at h
   cases k with
   | zero=>
    simp only[List.getElem?_cons_zero,Option.some.injEq]at h
    exact .inr ⟨_,rfl,by simp,h.symm⟩
   | succ k=>
    rcases vi (k0:=k0+1) (cs:=r) (by simpa using h)with⟨t',l',j,h1,h2,h3⟩ | ⟨d,h1,h2,h3⟩
    ·exact .inl ⟨t',l',j,by simpa using h1,h2,by simp only[bj];rw[h3];congr 2;omega⟩
    ·exact .inr ⟨d,by simpa using h1,h2,h3⟩
theorem IA{w:World}{imm:Nat→Prop}{g2:G}{id:Nat}{t:Ty}{l:List (ET F t)}{pl:Option (Nat×Nat×Nat)}{v:Value}(hi:g2.ids id=some (lift1 pl))(hO:bv w imm t l (lift1 pl))(hv:OwnV (lift1 pl) v):RepC (F:=F) g2 w (.wsl id) v:=by
 cases pl with
 | none=>obtain⟨p,rfl⟩:=hv;exact .wsl0 p hi
 | some q=>obtain⟨b2,cap2,n2⟩:=q;simp only[lift1,OwnV]at hv;subst hv;obtain⟨r1,r2,r3,_⟩:=hO;cases r1;exact .wsl hi r2 r3
theorem Ef(hT:TblOk P T){ty:TypeId}{X:Operand}(ho:o.op = .load ty X){id sz i off:Nat}(hv:vals = [.c (.pel id sz i off)]){t:Ty}{l:List (ET F t)}(hrow:mm id=some (.nrow t l)):Rule P o vals mm c K (Dr T c K ty id sz i off t l):=by
 subst hv;unfold Dr
 have key:∀{w:World}{a:Act}{b q:Nat}{v:Value},a.eval X = .pointer (some ⟨b,q,none⟩)→(loadVar ty ⟨b,q,none⟩).run P w = .ok v w→(execOp a.eval o).run P w = .ok (.value v) w:=by intro w a b q v e hr;simp[execOp,ho,e,Instr.loadAt,Instr.sureAddr,hr]
 split
 ·exact ad
 ·rename_i ti hti;refine au (λhc=>?_) (λ_=>ad);simp only[Bool.and_eq_true,beq_iff_eq]at hc;obtain⟨rfl,hag⟩:=hc;refine ax λx hx=>?_;refine au (λhfl=>?_) (λ_=>?_)
  ·refine lH λd hd=>?_;intro own g w a m hle hm hr;rw[ho]at hr;obtain⟨b,cn,hi,e⟩:=d9 (reps1 hr);obtain⟨_,_,_,hcell⟩:=eX hm (hle _ _ hrow) (c:=cn.1) (n:=cn.2) hi
   obtain⟨v,hrun,hrep⟩:=cD (P:=P) (g:=g) (w:=w) hT hti hd (b:=b) (q:=i*szT F t) (by
    intro k c hk;rw[List.getElem?_map]at hk;obtain⟨d',hd',rfl⟩:=Option.map_eq_some_iff.1 hk;obtain⟨y,pl,k1,k2,k3⟩:=hcell _ _ (aM hx hd');refine⟨y,k1,?_⟩
    cases hf:d'.flat with
    | true=>
     cases d' with
     | sl=>simp[NID.flat]at hf
     | _=>exact .im k3.2.2
    | false=>
     refine .one ?_
     cases d' with
     | sl t2 l2=>
      have hv:=k3.2
      cases pl with
      | none=>obtain⟨p,rfl⟩:=hv;rfl
      | some q=>simp only[lift1,OwnV]at hv;subst hv;rfl
     | _=>exact k3.2.2.oneCell)
   exact⟨v,key e hrun,hrep⟩
  ·refine au (λhok=>?_) (λ_=>ad);split
   ·rename_i d hd;intro r hr;refine⟨_,hr,?_⟩;intro own g w a m u hle hm hdm hall hfr hrep;rw[ho]at hrep;obtain⟨b,cn,hi,e⟩:=d9 (reps1 hrep);obtain⟨cap,n⟩:=cn;obtain⟨sl,hsl⟩:∃sl,sl=bj F 0 (encT F t x):=⟨_,rfl⟩
    have hslen:(sl.map (·.1)).length=sl.length:=by simp
    have hfree:∀j,j<(sl.map (·.1)).length+1→g.ids (c+j)=none:=λj hj=>hdm _ (hfr j (by simp only[← hsl];rw[hslen]at hj;omega))
    obtain⟨g2,b',cap',n',k1,k2,k3,k4,k5,k6,k7,k8,k9,k10⟩:=BT (c:=c) (ks:=sl.map (·.1)) (rs:=sl.map (·.2)) hm hall (hle _ _ hrow) hx (by rw[hsl];exact qg) (by simp) (λj B hj=>by
     rw[List.getElem?_map]at hj;obtain⟨p,hp,rfl⟩:=Option.map_eq_some_iff.1 hj;rw[hsl]at hp;obtain⟨k,t2,l2,h1,h2,h3⟩:=sj (q:=p.1) (B:=p.2) hp;rw[Nat.zero_add]at h1;subst h1
     exact⟨p.1,t2,l2,by rw[List.getElem?_map,hsl,hp];rfl,h3,h2⟩) (λq hq=>by
      have:=zR (cs:=encT F t x) (k0:=0) q (by rw[← hsl];exact hq)
      rw[aN]at this;omega) hfree
    rw[hi]at k6;cases k6;obtain⟨_,_,_,hcell⟩:=eX hm (hle _ _ hrow) (c:=cap) (n:=n) hi
    obtain⟨v,hrun,hrv⟩:=cD (P:=P) (g:=g2) (w:=w) hT hti hd (b:=b) (q:=i*szT F t) (by
     intro k cc hk;rcases vi (k0:=0) hk with⟨t2,l2,j,h1,h2,h3⟩ | ⟨d',h1,h2,h3⟩
     ·obtain⟨y,pl,q1,q2,q3⟩:=hcell _ _ (aM hx h1);refine⟨y,q1,?_⟩;subst h2
      have hname:=k8 j k (by rw[List.getElem?_map,hsl,h3];simp)
      have q2:n.2[i*szT F t+k]? = some pl:=q2;rw[q2,Option.getD_some]at hname;exact IA hname q3.1 q3.2
     ·obtain⟨y,pl,q1,q2,q3⟩:=hcell _ _ (aM hx h1);refine⟨y,q1,?_⟩;subst h3;refine .im ?_
      cases d' with
      | sl t2 l2=>exact absurd rfl (h2 t2 l2)
      | _=>exact(q3.2.2:RepI w g.imm _ y).mono (λb h=>by rw[k3];exact h) (λ_ _=>rfl))
    intro next Q hn;unfold Oper.wp;rw[key e hrun]
    have hmw:updM m (takeW id c t l i (sl.map (·.1)) (sl.map (·.2)))=updM m (takeW id c t l i ((bj F 0 (encT F t x)).map (·.1)) ((bj F 0 (encT F t x)).map (·.2))):=by rw[hsl]
    refine hn v w g2 hrv (hmw▸k2) ⟨k1,rfl,rfl,rfl,Nat.le_refl _,λ_ _ _=>rfl,Nat.le_refl _⟩ ?_;intro y hu hy;have hy:y<c∨c+(1+(bj F 0 (encT F t x)).length)≤y:=hy;rw[← hsl]at hy
    rw[k5 y (by rw[hslen];omega)]
    exact hdm y hu
   ·exact ad
theorem tLoadM_rule(hT:TblOk P T){ty:TypeId}{X:Operand}(ho:o.op = .load ty X){id sz i off:Nat}(hv:vals = [.c (.pel id sz i off)]){t:Ty}{l:List (ET F t)}{j:Nat}(hrow:mm id=some (.mrow t l j)):Rule P o vals mm c K (CZ T K ty sz i off t l j):=by
 subst hv;unfold CZ
 have key:∀{w:World}{a:Act}{b q:Nat}{v:Value},a.eval X = .pointer (some ⟨b,q,none⟩)→(loadVar ty ⟨b,q,none⟩).run P w = .ok v w→(execOp a.eval o).run P w = .ok (.value v) w:=by intro w a b q v e hr;simp[execOp,ho,e,Instr.loadAt,Instr.sureAddr,hr]
 split
 ·exact ad
 ·rename_i ti hti;refine au (λhc=>?_) (λ_=>ad);simp only[beq_iff_eq]at hc;subst hc
  cases hji:Nat.ble j i with
  | false=>exact ad
  | true=>
  simp only[cond_true];have hji:=Nat.le_of_ble_eq_true hji;refine ax λx hx=>lH λd hd=>?_;intro own g w a m hle hm hr;rw[ho]at hr;obtain⟨b,cn,hi,e⟩:=d9 (reps1 hr);obtain⟨pl,k1,k2⟩:=hm.ok id _ (hle _ _ hrow);rw[hi]at k1;cases k1;obtain⟨cap,n⟩:=cn;obtain⟨q1,q2,q3,q4,q5,cur,e0,q6,q7,q8⟩:=k2;have hlt:i<l.length:=(LQ.1 hx).1
  obtain⟨v,hrun,hrep⟩:=cD (P:=P) (g:=g) (w:=w) hT hti hd (b:=b) (q:=i*szT F t) (by
   intro k c hk;obtain⟨d',hd',rfl⟩:=fu hk;have hc:=aM hx hd'
   have hks:k<szT F t:=by rw[← aN F t x];exact(LQ.1 hd').1
   have h1:i*szT F t+k<(cells F t l).length:=(LQ.1 hc).1
   have h2:(cells F t l).length≤cur.length:=by rw[q7,dL];exact Nat.mul_le_mul_right _ q2
   have hC:=q8 _ _ _ _ hc (LP (by omega:i*szT F t+k<cur.length)) (LP (by omega:i*szT F t+k<n.2.length))
   refine⟨cur[i*szT F t+k],?_,.im (hC.2 ?_).2⟩
   ·simp[World.cell?,q6]
   ·have:j*szT F t≤i*szT F t:=Nat.mul_le_mul_right _ hji;omega)
  exact⟨v,key e hrun,hrep⟩
theorem B_(hT:TblOk P T)(hΓ : CtxOk P Γ):Rule P o vals mm c K (tOpN T Γ vals mm c K o.op):=by
 unfold tOpN;split
 ·exact FO hT hΓ rfl
 ·rename_i ho;split
  ·rename_i hrow;exact tStoN_rule hT ho rfl (.inl ⟨hrow,rfl⟩)
  ·rename_i hrow;exact tStoN_rule hT ho rfl (.inr hrow)
  ·rename_i hrow;exact tStoM_rule hT ho rfl hrow
  ·exact n_ hT hΓ
 ·rename_i ho;split
  ·rename_i hrow;split
   ·rename_i ti hti;exact au (λ_=>Ef hT ho rfl hrow) (λ_=>n_ hT hΓ)
   ·exact ad
  ·rename_i hrow;exact tLoadM_rule hT ho rfl hrow
  ·exact n_ hT hΓ
 ·rename_i id kk n ho;split
  ·rename_i hals;split
   ·rename_i e _ _ _ _ _ ht;split
    ·rename_i te hte;refine ax λi hi=>ao ?_;intro own g w a m hle hm hr;rw[ho]at hr;simp only[Op.operands,List.map_cons,List.map_nil]at hr;obtain⟨h1,h2⟩:=reps2 hr;obtain⟨h3,h4,rfl⟩:=mE hi;have hS:=hm.ok _ _ (hle _ _ hals);rcases aU (aO h1)with⟨hid,p,ev⟩ | ⟨b,c',len,hid,h5,h6,ev⟩
     ·rcases hS with⟨_,_,_,_,k1,_⟩ | ⟨_,_,k3⟩
      ·rw[hid]at k1;cases k1
      ·omega
     ·rcases hS with⟨_,_,_,_,k1,_,_,k4⟩ | ⟨k1,_⟩
      ·rw[hid]at k1;cases k1
       refine⟨.pointer (some ⟨b,0+n.toNat*te.size,none⟩),?_,by rw[Nat.zero_add];exact .c (.pel (off:=0) hid)⟩
       have hu:=run_underlying (hT.und _ _ ht) w;have hs:=bi hT hte w;have e2:=bE h2
       have h7:0≤n∧n<len.1:=⟨h3,by omega⟩
       simp only[execOp,ho,ev,e2,Sem.run_bind,Instr.indexAt,asIntOf,hu,Result.andThen_ok,Sem.run_pure,h7,and_self,if_true,hs,Addr.add_lit]
      ·rw[hid]at k1;cases k1
    ·exact ad
   ·exact ad
  ·exact n_ hT hΓ
 ·exact n_ hT hΓ
theorem Gy(hT:TblOk P T)(hΓ : CtxOk P Γ):Rule P o vals mm c K (tOpA T Γ vals mm c K o.op):=by
 unfold tOpA;split
 ·exact B_ hT hΓ
 ·exact HB (B_ hT hΓ)
end
set_option linter.unusedVariables false
set_option linter.unusedSimpArgs false
section
variable{F:Fam}
def TS.st(s:TS F):St F:=⟨look s.E,look s.M,λid=>Nat.blt id s.c⟩
structure TR(F:Fam) where
 o:Oper
 s:St F
 c:Nat
 val:Dat F
 mw:List (Nat×Option (Blk F))
 nu:Nat
 run:Bool
 anc:Nat
def St.upd(s:St F)(t:TR F):St F:=⟨λx=>if t.o.dst=some x then some t.val else s.e x,updM s.m t.mw,λid=>(decide (t.c≤id)&&decide (id<t.c+t.nu))||s.u id⟩
def TR.next(t:TR F):St F:=t.s.upd t
section
variable(P:Program)(n:Nat)(ops:List Oper)
def Grd(o:Oper)(s:St F):Prop:=
 ∃j want d,o.guard=some (j,want)∧dstOf ops j=some d∧s.e d=some (.c (.im (.b want)))
def Skp(o:Oper)(s:St F):Prop:=
 ∃j want d,o.guard=some (j,want)∧dstOf ops j=some d∧(s.e d=some (.c (.im (.b (!want))))∨s.e d=some (.tup []))
def TR.gs(t:TR F):List Nat:=match t.o.guard with | some (j,_)=>(dstOf ops j).toList | none=>[]
def TR.vals(t:TR F):List (Dat F):=t.o.op.operands.toList.map (opd t.s.e)
def TR.rs(t:TR F):List Nat:=if t.run then t.gs ops++r9 t.o.op.operands.toList else t.gs ops
def TR.tm(t:TR F):List Nat:=if t.run then ES t.s.m t.o.op t.vals else[]
def TR.rc(t:TR F):Rec:=⟨t.rs ops,t.o.dst,t.tm,t.mw.map (·.1),t.anc⟩
structure TR.ok(t:TR F):Prop where
 dst:∀d,t.o.dst=some d→d<n
 fresh:∀k,k<t.nu→t.s.u (t.c+k)=false
 ran:t.run=true→Does P t.o t.vals (restr t.s.m t.tm) t.c { val:=t.val,mw:=t.mw,nu:=t.nu }∧(t.o.guard=none∨Grd ops t.o t.s)
 skipped:t.run=false→t.val = .tup []∧t.mw = []∧t.nu=0∧Skp ops t.o t.s
def Chain:St F→List (TR F)→St F→Prop
 | s,[],s'=>s'=s
 | s,t::l,s'=>t.s=s∧Chain t.next l s'
def z9:List Rec→List (TR F)→Prop
 | _,[]=>True
 | rs,t::l=>t.anc=ancOf rs (edgesOn t.o.after.toList)∧z9 (rs++[t.rc ops]) l
end
theorem ar{α : Type}(x y:Nat)(a:α)(l:List (Nat×α)):look ((y,a)::l) x=if Nat.beq y x then some a else look l x:=rfl
theorem sS(E:List (Nat×Dat F))(dst:Option Nat)(d:Dat F)(x:Nat):look (putE E dst d) x=if dst=some x then some d else look E x:=by
 cases dst with
 | none=>simp[putE]
 | some y=>
  simp only[putE,ar];by_cases h:y=x
  ·subst h;simp
  ·rw[am h];simp[h]
theorem aD{α : Type}(q:Nat→Bool)(x:Nat):∀(l:List (Nat×α)),look (l.filter λp=>q p.1) x=if q x then look l x else none
 | []=>by simp[look]
 | (y,a)::l=>by
  by_cases hq:q y=true
  ·rw[List.filter_cons_of_pos (by simpa using hq),ar,ar,aD q x l]
   by_cases h:y=x
   ·subst h;simp[hq]
   ·rw[am h];simp
  ·rw[List.filter_cons_of_neg (by simpa using hq),aD q x l,ar]
   by_cases h:y=x
   ·subst h;simp[hq]
   ·rw[am h];simp
theorem aS{α : Type}(x:Nat):∀(l r:List (Nat×α)),look (l++r) x=(look l x).or (look r x)
 | [],r=>by simp[look]
 | (y,a)::l,r=>by
  simp only[List.cons_append,ar,aS x l r]
  split<;>simp
theorem u7:∀(mw:List (Nat×Option (Blk F))) {m m':Nat→Option (Blk F)},(∀x,m x=m' x)→∀x,updM m mw x=updM m' mw x
 | [],_,_,h,x=>h x
 | (id,B)::r,m,m',h,x=>by
  simp only[updM]
  exact u7 r (λy=>by rw[h y]) x
theorem dZ:∀(mw:List (Nat×Option (Blk F))) (M:List (Nat×Blk F)) (x:Nat),look (setM M mw) x=updM (look M) mw x
 | [],M,x=>rfl
 | (id,none)::r,M,x=>by
  simp only[setM,updM];rw[dZ r];refine u7 r (λy=>?_) x;rw[aD (λp=>!(Nat.beq id p))]
  cases Nat.beq id y<;>simp
 | (id,some B)::r,M,x=>by
  simp only[setM,updM];rw[dZ r];refine u7 r (λy=>?_) x;rw[ar,aD (λp=>!(Nat.beq id p))]
  cases Nat.beq id y<;>simp
structure Fr(nv:Nat)(s s':TS F):Prop where
 e:∀x,x<nv→x∉s'.dE→look s'.E x=look s.E x
 m:∀id,id<s.c→id∉s'.dM→look s'.M id=look s.M id
 c:s.c≤s'.c
 dE:∀x∈s.dE,x∈s'.dE
 dM:∀x∈s.dM,x∈s'.dM
theorem Fr.refl(nv:Nat)(s:TS F):Fr nv s s:=⟨λ_ _ _=>rfl,λ_ _ _=>rfl,Nat.le_refl _,λ_ h=>h,λ_ h=>h⟩
theorem Fr.trans{nv:Nat}{s s' s'':TS F}(h:Fr nv s s')(k:Fr nv s' s''):Fr nv s s'':=
 ⟨λx hx hn=>(k.e x hx hn).trans (h.e x hx (λhd=>hn (k.dE x hd))),λid hi hn=>(k.m id (Nat.lt_of_lt_of_le hi h.c) hn).trans (h.m id hi (λhd=>hn (k.dM id hd))),
  Nat.le_trans h.c k.c,λx hx=>k.dE x (h.dE x hx),λx hx=>k.dM x (h.dM x hx)⟩
section
variable{P:Program}{T:TypeId→Option (TI F)}{Γ : Ctx F}{nv n:Nat}{ops:List Oper}{R:Type}
def wU(P:Program)(nv n:Nat)(ops:List Oper)(o:Oper)(s:TS F)(recs:List Rec)(K:TS F→List Rec→Option R)(r:R):Prop:=
 ∃s' t,K s' (recs++[t.rc ops])=some r∧t.o=o∧t.s=s.st∧t.next=s'.st∧TR.ok P n ops t∧t.anc=ancOf recs (edgesOn o.after.toList)∧Fr nv s s'
theorem Fa{o:Oper}(h:(match o.dst with | some d=>Nat.blt d n | none=>true)=true):∀d,o.dst=some d→d<n:=by intro d hd;rw[hd]at h;exact Nat.blt_eq.mp h
theorem BW{dE:List Nat}{dst:Option Nat}{x:Nat}(hx:x<nv)(h:x∉dirty nv dE dst):dst≠some x∧x∉dE:=by
 cases dst with
 | none=>exact⟨by simp,h⟩
 | some y=>
  simp only[dirty]at h;split at h
  ·simp only[List.mem_cons,not_or]at h
   exact⟨λe=>by cases e;exact h.1 rfl,h.2⟩
  ·rename_i hb;refine⟨λe=>?_,h⟩;cases e;exact hb (Nat.blt_eq.mpr hx)
theorem BU{dE:List Nat}{dst:Option Nat}{x:Nat}(h:x∈dE):x∈dirty nv dE dst:=by
 cases dst with
 | none=>exact h
 | some y=>
  simp only[dirty];split
  ·simp[h]
  ·exact h
theorem FR{s s':St F}(h1:∀x,s.e x=s'.e x)(h2:∀x,s.m x=s'.m x)(h3:∀x,s.u x=s'.u x):s=s':=by
 cases s;cases s'
 simp only[St.mk.injEq];exact⟨funext h1,funext h2,funext h3⟩
theorem ba(a b:Nat):Nat.blt a b=decide (a<b):=by rw[Bool.eq_iff_iff];simp[Nat.blt_eq]
theorem aI{p:Prop}[Decidable p]{x:Option R}{r:R}(h:(if p then x else none)=some r):p∧x=some r:=by
 split at h
 ·exact⟨by assumption,h⟩
 ·cases h
theorem zp{o:Oper}{gs:List Nat}{s:TS F}{recs:List Rec}{K:TS F→List Rec→Option R}{r:R}(h:tSkip nv n o gs s recs K=some r)
  (hgs:gs=(match o.guard with | some (j,_)=>(dstOf ops j).toList | none=>[])) (hsk:Skp ops o s.st):wU P nv n ops o s recs K r:=by
 unfold tSkip at h;obtain⟨hd,h⟩:=aI h
 ·refine⟨⟨putE s.E o.dst (.tup []),s.M,s.c,dirty nv s.dE o.dst,s.dM⟩,⟨o,s.st,s.c,.tup [],[],0,false,ancOf recs (edgesOn o.after.toList)⟩,?_,rfl,rfl,?_,⟨Fa (n:=n) (o:=o) hd,λk hk=>absurd hk (Nat.not_lt_zero k),λhr=>(by cases hr),λ_=>⟨rfl,rfl,rfl,hsk⟩⟩,rfl,?_⟩
  ·rw[hgs]at h;exact h
  ·refine FR (λx=>?_) (λx=>rfl) (λx=>?_)
   ·simp only[TR.next,St.upd,TS.st];rw[sS]
   ·simp only[TR.next,St.upd,TS.st,Nat.add_zero];by_cases hx:s.c≤x
    ·have:¬ x<s.c:=by omega
     simp[this,ba]
    ·simp[hx]
  ·refine⟨λx hx hn=>?_,λ_ _ _=>rfl,Nat.le_refl _,λx hx=>BU hx,λ_ hx=>hx⟩;show look (putE s.E o.dst (.tup [])) x=_;rw[sS,if_neg (BW hx hn).1]
theorem C9(hT:TblOk P T)(hΓ : CtxOk P Γ){o:Oper}{gs:List Nat}{s:TS F}{recs:List Rec}{K:TS F→List Rec→Option R}{r:R}(h:tGo T Γ nv n o gs s recs K=some r)
  (hgs:gs=(match o.guard with | some (j,_)=>(dstOf ops j).toList | none=>[])) (hgr:o.guard=none∨Grd ops o s.st):wU P nv n ops o s recs K r:=by
 unfold tGo at h;obtain⟨res,h1,h2⟩:=Gy hT hΓ r h;obtain⟨hd,h1⟩:=aI h1
 ·refine⟨⟨putE s.E o.dst res.val,setM s.M res.mw,s.c+res.nu,dirty nv s.dE o.dst,res.mw.map (·.1)++s.dM⟩,⟨o,s.st,s.c,res.val,res.mw,res.nu,true,ancOf recs (edgesOn o.after.toList)⟩,?_,rfl,rfl,?_,⟨Fa (n:=n) (o:=o) hd,λk hk=>?_,λ_=>⟨h2,hgr⟩,λhr=>(by cases hr)⟩,rfl,?_⟩
  ·rw[hgs]at h1;exact h1
  ·refine FR (λx=>?_) (λx=>?_) (λx=>?_)
   ·simp only[TR.next,St.upd,TS.st];rw[sS]
   ·simp only[TR.next,St.upd,TS.st];rw[dZ]
   ·simp only[TR.next,St.upd,TS.st,ba];rw[Bool.eq_iff_iff];simp only[Bool.or_eq_true,Bool.and_eq_true,decide_eq_true_eq];omega
  ·simp only[TS.st,ba];simp
  ·refine⟨λx hx hn=>?_,λid hi hn=>?_,Nat.le_add_right _ _,λx hx=>BU hx,λ_ hx=>List.mem_append_right _ hx⟩
   ·show look (putE s.E o.dst res.val) x=_;rw[sS,if_neg (BW hx hn).1]
   ·show look (setM s.M res.mw) id=_;rw[dZ,cx];intro hm;exact hn (List.mem_append_left _ hm)
theorem KQ{s:TS F}{d:Nat}{v:Dat F}(h:look s.E d=some v):(⟨(d,v)::s.E,s.M,s.c,s.dE,s.dM⟩:TS F).st=s.st:=by
 refine FR (λx=>?_) (λx=>rfl) (λx=>rfl);simp only[TS.st,ar];by_cases hx:d=x
 ·subst hx;simp[h]
 ·rw[am hx];simp
theorem GM{s:TS F}{d:Nat}{v:Dat F}(hv:look s.E d=some v){o:Oper}{recs:List Rec}{K:TS F→List Rec→Option R}{r:R}(h:wU P nv n ops o ⟨(d,v)::s.E,s.M,s.c,s.dE,s.dM⟩ recs K r):wU P nv n ops o s recs K r:=by
 obtain⟨s',t,h1,h2,h3,h4,h5,h6,h7⟩:=h;rw[KQ hv]at h3;refine⟨s',t,h1,h2,h3,h4,h5,h6,⟨λx hx hn=>?_,h7.m,h7.c,h7.dE,h7.dM⟩⟩;rw[h7.e x hx hn,ar];by_cases hdx:d=x
 ·subst hdx;simp[hv]
 ·rw[am hdx];simp
theorem Ig(hT:TblOk P T)(hΓ : CtxOk P Γ){o:Oper}{s:TS F}{recs:List Rec}{K:TS F→List Rec→Option R}{r:R}(h:tStep T Γ nv n ops o s recs K=some r):wU P nv n ops o s recs K r:=by
 unfold tStep at h;split at h
 ·rename_i hg
  exact C9 hT hΓ h (by rw[hg]) (.inl hg)
 ·rename_i j want hg;split at h
  ·cases h
  ·rename_i d hd
   have hgs:[d]=(match o.guard with | some (j,_)=>(dstOf ops j).toList | none=>[]):=by rw[hg];simp[hd]
   split at h
   ·rename_i x hx
    have hx':∀b,x=b→look s.E d=some (.c (.im (.b b))):=λb e=>by rw[hx,e]
    have self:∀b,(⟨(d,.c (.im (.b b)))::s.E,s.M,s.c,s.dE,s.dM⟩:TS F).st.e d=some (.c (.im (.b b))):=λb=>by simp[TS.st,ar]
    cases x with
    | true=>
     refine GM (hx' true rfl) ?_;simp only[cond_true]at h;split at h
     ·rename_i hw
      exact C9 hT hΓ h hgs (.inr ⟨j,want,d,hg,hd,by rw[hw];exact self true⟩)
     ·rename_i hw
      exact zp h hgs ⟨j,want,d,hg,hd,.inl (by rw[Bool.not_eq_true]at hw;rw[hw];exact self true)⟩
    | false=>
     refine GM (hx' false rfl) ?_;simp only[cond_false]at h;split at h
     ·rename_i hw
      exact zp h hgs ⟨j,want,d,hg,hd,.inl (by rw[hw];exact self false)⟩
     ·rename_i hw
      exact C9 hT hΓ h hgs (.inr ⟨j,want,d,hg,hd,by rw[Bool.not_eq_true]at hw;rw[hw];exact self false⟩)
   ·rename_i hx;exact zp h hgs ⟨j,want,d,hg,hd,.inr hx⟩
   ·cases h
theorem qX(hT:TblOk P T)(hΓ : CtxOk P Γ):∀{l:List Oper}{s:TS F}{recs:List Rec}{K:TS F→List Rec→Option R} {r:R},tOps T Γ nv n ops l s recs K=some r→
  ∃s' tr,K s' (recs++tr.map (·.rc ops))=some r∧tr.map (·.o)=l∧Chain s.st tr s'.st∧(∀t∈tr,TR.ok P n ops t)∧z9 ops recs tr∧Fr nv s s'
 | [],s,recs,K,r,h=>⟨s,[],by simpa[tOps]using h,rfl,rfl,by simp,trivial,.refl _ _⟩
 | o::l,s,recs,K,r,h=>by
  simp only[tOps]at h;obtain⟨s1,t,h1,h2,h3,h4,h5,h6,h7⟩:=Ig hT hΓ h;obtain⟨s',tr,k1,k2,k3,k4,k5,k6⟩:=qX hT hΓ h1
  refine⟨s',t::tr,by simpa using k1,by simp[h2,k2],⟨h3,by rw[h4];exact k3⟩,?_,⟨by rw[h2];exact h6,k5⟩,h7.trans k6⟩
  intro x hx;rcases List.mem_cons.1 hx with rfl | hx
  ·exact h5
  ·exact k4 x hx
end
section
variable{P:Program}{n:Nat}{ops:List Oper}{own:Ow}{W0:World}
theorem AV{x:Nat}:∀{l:List Operand},Operand.tmp x∈l→x∈r9 l
 | [],h=>by simp at h
 | y::l,h=>by
  rcases List.mem_cons.1 h with rfl | h
  ·simp[r9]
  ·have:=AV h
   cases y<;>simp[r9,this]
theorem De{s:St F}{g g':G}{a:Act}{w w':World}{t:TR F}{v:Value}(h:Good P own W0 n s g a w)(hd:∀d,t.o.dst=some d→d<n)(hv:RepD P g' w' t.val v)
  (hm:MemOk own g' w' (updM s.m t.mw)) (hst:Stp s.m g w g' w') (hu:∀id,s.u id=false→(id<t.c∨t.c+t.nu≤id)→g'.ids id=none):Good P own W0 n (s.upd t) g' (a.put t.o.dst v) w':=by
 have htm:(a.put t.o.dst v).tmps.size=n:=by
  rw[← h.tsz]
  cases t.o.dst<;>simp[Act.put]
 have hdf:(a.put t.o.dst v).defers = []:=by
  rw[← h.dfr]
  cases t.o.dst<;>rfl
 refine⟨hdf,htm,?_,hm,?_,λb hb=>hst.le.imm b (h.ini b hb),h.frm.stp h.mem hst,λid p hp=>hst.le.ids id p (h.nam id p hp)⟩
 ·intro x d hx;simp only[St.upd]at hx;split at hx
  ·rename_i hdst;cases hx;have hlt:=hd x hdst;rw[hdst];simp only[Act.put];rw[Array.getD_eq_getD_getElem?,Array.getElem?_setIfInBounds]
   rw[if_pos rfl,if_pos (by rw[h.tsz];exact hlt)]
   exact hv
  ·rename_i hdst;have:=(h.env x d hx).le hst.le
   cases hdd:t.o.dst with
   | none=>exact this
   | some y=>
    have hne:y≠x:=λe=>hdst (by rw[hdd,e])
    simp only[Act.put];rw[Array.getD_eq_getD_getElem?,Array.getElem?_setIfInBounds,if_neg hne,← Array.getD_eq_getD_getElem?];exact this
 ·intro id hid;simp only[St.upd,Bool.or_eq_false_iff,Bool.and_eq_false_iff,decide_eq_false_iff_not]at hid
  exact hu id hid.2 (by omega)
theorem F7{opsA:Array Oper}(hops:opsA.toList=ops){s:St F}{g:G}{a:Act}{w:World}(h:Good P own W0 n s g a w){j d:Nat}{b:Bool}(hd:dstOf ops j=some d)(he:s.e d=some (.c (.im (.b b)))) :
  yielded opsA a.tmps j=some b:=by
 have hv:=qF (h.env d _ he)
 have hj:(opsA[j]?).bind (·.dst)=some d:=by rw[← hd];simp only[dstOf,← hops];simp
 have ht:a.tmps[d]? = some (.bool b):=by
  rw[Array.getD_eq_getD_getElem?]at hv
  cases hx:a.tmps[d]? with
  | none=>rw[hx]at hv;simp[undef]at hv
  | some x=>rw[hx]at hv;simp only[Option.getD_some]at hv;rw[hv]
 simp only[yielded,hj,LO,ht]
theorem I3{opsA:Array Oper}(hops:opsA.toList=ops){s:St F}{g:G}{a:Act}{w:World}(h:Good P own W0 n s g a w){j d:Nat}(hd:dstOf ops j=some d)(he:s.e d=some (.tup [])) :
  yielded opsA a.tmps j=none:=by
 obtain⟨vs,hv,hl,_⟩:=E9 (h.env d _ he)
 have hj:(opsA[j]?).bind (·.dst)=some d:=by rw[← hd];simp only[dstOf,← hops];simp
 simp only[yielded,hj,LO];rw[Array.getD_eq_getD_getElem?]at hv
 cases hx:a.tmps[d]? with
 | none=>rfl
 | some x=>rw[hx]at hv;simp only[Option.getD_some]at hv;rw[hv]
theorem Ba{t:TR F}(ok:TR.ok P n ops t){s:St F}(hge:∀x∈t.rs ops,s.e x=t.s.e x)(hgm:∀id,id∈t.tm→s.m id=t.s.m id)
  (hfr:∀k,k<t.nu→s.u (t.c+k)=false) {g:G} {a:Act} {w:World} (hgood:Good P own W0 n s g a w) {opsA:Array Oper} (hops:opsA.toList=ops) {i:Nat} (hi:opsA[i]? = some t.o)
  {K:Act→World→Prop} {Q:Exit→Act→World→Prop} (hK:∀g' a' w',Good P own W0 n (s.upd t) g' a' w'→K a' w'):wpOp P opsA Q i K a w:=by
 unfold wpOp;rw[hi];dsimp only
 cases hrun:t.run with
 | false=>
  obtain⟨h1,h2,h3,j,want,d,hgd,hdd,hlk⟩:=ok.skipped hrun
  have hmem:d∈t.rs ops:=by simp[TR.rs,hrun,TR.gs,hgd,hdd]
  have hw:Region.wanted t.o (yielded opsA a.tmps)=false:=by
   rcases hlk with hlk | hlk
   ·have he:s.e d=some (.c (.im (.b (!want)))):=by rw[hge d hmem,hlk]
    have hy:=F7 hops hgood hdd he;simp only[Region.wanted,hgd,hy]
    cases want<;>rfl
   ·have he:s.e d=some (.tup []):=by rw[hge d hmem,hlk]
    have hy:=I3 hops hgood hdd he;simp only[Region.wanted,hgd,hy];rfl
  rw[hw];simp only[Bool.false_eq_true,if_false]
  refine hK g _ w (De hgood ok.dst (by rw[h1];exact .tup rfl (by simp)) (by rw[h2];exact hgood.mem) (.refl _ _ _) ?_)
  intro id hu _;exact hgood.dom id hu
 | true=>
  obtain⟨h1,h6⟩:=ok.ran hrun
  have hw:Region.wanted t.o (yielded opsA a.tmps)=true:=by
   rcases h6 with h6 | ⟨j,want,d,hgd,hdd,hlk⟩
   ·simp[Region.wanted,h6]
   ·have hmem:d∈t.rs ops:=by simp[TR.rs,hrun,TR.gs,hgd,hdd]
    have he:s.e d=some (.c (.im (.b want))):=by rw[hge d hmem,hlk]
    have hy:=F7 hops hgood hdd he;simp[Region.wanted,hgd,hy]
  rw[hw,if_pos rfl];left
  have hv:t.vals=t.o.op.operands.toList.map (opd s.e):=by
   unfold TR.vals;apply List.map_congr_left;intro x hx
   cases x with
   | tmp y=>simp only[opd];rw[hge y (by simp[TR.rs,hrun,AV hx])]
   | _=>rfl
  have hle:MLe (restr t.s.m t.tm) s.m:=by
   intro id B hB;unfold restr at hB;split at hB
   ·rename_i hm;rw[hgm id (aF.1 hm)];exact hB
   ·cases hB
  refine h1 own g w a s.m s.u hle hgood.mem hgood.dom (λb hb=>hgood.frm.fresh b (Nat.le_trans hgood.frm.size hb)) hfr (by rw[hv];exact Il hgood.env _) K Q ?_
  intro v w' g' k1 k2 k3 k4;exact hK g' _ w' (De hgood ok.dst k1 k2 k3 k4)
theorem pe{opsA:Array Oper}(hops:opsA.toList=ops){Q:Exit→Act→World→Prop}:∀(tr:List (TR F)) (k:Nat) (s s':St F),(∀j,tr[j]?.map (·.o)=opsA[k+j]?)→Chain s tr s'→(∀t∈tr,TR.ok P n ops t)→
  ∀{g:G}{a:Act}{w:World},Good P own W0 n s g a w→(∀g' a' w',Good P own W0 n s' g' a' w'→Q .normal a' w')→wpOps P opsA Q (List.range' k tr.length) a w
 | [],k,s,s',_,hc,_,g,a,w,hgood,hQ=>by have hc':s'=s:=hc;subst hc';exact hQ g a w hgood
 | t::tr,k,s,s',ho,hc,hok,g,a,w,hgood,hQ=>by
  obtain⟨hts,hc⟩:=hc;simp only[List.length_cons,List.range'_succ];rw[wpOps_cons]
  have hi:opsA[k]? = some t.o:=by have:=ho 0;simpa using this.symm
  refine Ba (hok t (by simp)) (s:=s) ?_ ?_ ?_ hgood hops hi ?_
  ·intro x _;rw[hts]
  ·intro id _;rw[hts]
  ·intro j hj
   have:=(hok t (by simp)).fresh j hj
   rw[hts]at this;exact this
  ·intro g' a' w' hg'
   refine pe hops tr (k+1) t.next s' ?_ hc (λx hx=>hok x (by simp[hx])) (by unfold TR.next;rw[hts];exact hg') hQ
   intro j;have:=ho (j+1);simpa[Nat.add_assoc,Nat.add_comm 1 j]using this
end
end
set_option linter.unusedVariables false
set_option linter.unusedSimpArgs false
section
variable{F:Fam}
def TR.nm(t:TR F)(x:Nat):Bool:=decide (t.c≤x)&&decide (x<t.c+t.nu)
theorem C3{t:TR F}(h:∀k,k<t.nu→t.s.u (t.c+k)=false){x:Nat}(hx:t.nm x=true):t.s.u x=false:=by
 simp only[TR.nm,Bool.and_eq_true,decide_eq_true_eq]at hx
 have:=h (x - t.c) (by omega)
 rwa [Nat.add_sub_cancel' hx.1]at this
def foldS(on:Nat→Bool):Nat→List (TR F)→(St F)→(St F)
 | _,[],s=>s
 | k,t::l,s=>foldS on (k+1) l (if on k then s.upd t else s)
theorem yf:∀(mw:List (Nat×Option (Blk F))) (m m':Nat→Option (Blk F)) (x:Nat),x∈mw.map (·.1)→updM m mw x=updM m' mw x
 | [],m,m',x,h=>by simp at h
 | (id,B)::r,m,m',x,h=>by
  simp only[updM];by_cases hr:x∈r.map (·.1)
  ·exact yf r _ _ x hr
  ·rw[cx r _ x hr,cx r _ x hr];simp only[List.map_cons,List.mem_cons]at h;rcases h with rfl | h
   ·simp
   ·exact absurd h hr
theorem yb(on on':Nat→Bool)(x:Nat):∀(l:List (TR F)) (k:Nat) (s s':(St F)),s.e x=s'.e x→(∀j t,l[j]? = some t→t.o.dst=some x→on (k+j)=on' (k+j))→(foldS on k l s).e x=(foldS on' k l s').e x
 | [],k,s,s',h,_=>h
 | t::l,k,s,s',h,hw=>by
  simp only[foldS]
  refine yb on on' x l (k+1) _ _ ?_ (λj t' hj hd=>by have:=hw (j+1) t' (by simpa using hj) hd;simpa[Nat.add_assoc,Nat.add_comm 1 j]using this)
  by_cases hd:t.o.dst=some x
  ·have:=hw 0 t rfl hd;simp only[Nat.add_zero]at this;rw[this];split
   ·simp[St.upd,hd]
   ·exact h
  ·have e1:∀s:(St F),(s.upd t).e x=s.e x:=λs=>by simp[St.upd,hd]
   split<;>split<;>simp only[e1,h]
theorem xR(on on':Nat→Bool)(x:Nat):∀(l:List (TR F)) (k:Nat) (s s':(St F)),s.m x=s'.m x→(∀j t,l[j]? = some t→x∈t.mw.map (·.1)→on (k+j)=on' (k+j))→(foldS on k l s).m x=(foldS on' k l s').m x
 | [],k,s,s',h,_=>h
 | t::l,k,s,s',h,hw=>by
  simp only[foldS]
  refine xR on on' x l (k+1) _ _ ?_ (λj t' hj hd=>by have:=hw (j+1) t' (by simpa using hj) hd;simpa[Nat.add_assoc,Nat.add_comm 1 j]using this)
  by_cases hd:x∈t.mw.map (·.1)
  ·have:=hw 0 t rfl hd;simp only[Nat.add_zero]at this;rw[this];split
   ·exact yf _ _ _ x hd
   ·exact h
  ·have e1:∀s:(St F),(s.upd t).m x=s.m x:=λs=>cx _ _ x hd
   split<;>split<;>simp only[e1,h]
theorem Da(on:Nat→Bool)(x:Nat)(l:List (TR F))(k:Nat)(s:(St F))(h:∀j t,l[j]? = some t→t.o.dst=some x→on (k+j)=false):(foldS on k l s).e x=s.e x:=by
 have:∀(l:List (TR F)) (k:Nat) (s:(St F)),(foldS (λ_=>false) k l s)=s:=by
  intro l
  induction l with
  | nil=>intro k s;rfl
  | cons t l ih=>intro k s;simp only[foldS];exact ih (k+1) s
 rw[yb on (λ_=>false) x l k s s rfl h,this]
theorem DA(on:Nat→Bool)(x:Nat)(l:List (TR F))(k:Nat)(s:(St F))(h:∀j t,l[j]? = some t→x∈t.mw.map (·.1)→on (k+j)=false):(foldS on k l s).m x=s.m x:=by
 have:∀(l:List (TR F)) (k:Nat) (s:(St F)),(foldS (λ_=>false) k l s)=s:=by
  intro l
  induction l with
  | nil=>intro k s;rfl
  | cons t l ih=>intro k s;simp only[foldS];exact ih (k+1) s
 rw[xR on (λ_=>false) x l k s s rfl h,this]
theorem oi(on:Nat→Bool)(x:Nat):∀(l:List (TR F)) (k:Nat) (s:(St F)),(foldS on k l s).u x=true↔s.u x=true∨∃j t,l[j]? = some t∧on (k+j)=true∧t.nm x=true
 | [],k,s=>by simp[foldS]
 | t::l,k,s=>by
  simp only[foldS];rw[oi on x l (k+1)];constructor
  ·rintro(h | ⟨j,t',h1,h2,h3⟩)
   ·split at h
    ·rename_i hk;simp only[St.upd,Bool.or_eq_true]at h;rcases h with h | h
     ·exact .inr ⟨0,t,rfl,by simpa using hk,h⟩
     ·exact .inl h
    ·exact .inl h
   ·exact .inr ⟨j+1,t',by simpa using h1,by rw[← h2];congr 1;omega,h3⟩
  ·rintro(h | ⟨j,t',h1,h2,h3⟩)
   ·left;split
    ·simp[St.upd,h]
    ·exact h
   ·cases j with
    | zero=>
     left;simp only[List.getElem?_cons_zero,Option.some.injEq]at h1;subst h1
     rw[if_pos (by simpa using h2)]
     simp[St.upd,TR.nm]at h3 ⊢;simp[h3]
    | succ j=>exact .inr ⟨j,t',by simpa using h1,by rw[← h2];congr 1;omega,h3⟩
theorem FX(on:Nat→Bool)(i:Nat):∀(l:List (TR F)) (k:Nat) (s:(St F)) (t:TR F),l[i]? = some t→on (k+i)=false→
  (∀j t',l[j]? = some t'→i<j→on (k+j)=true→(∀x,t.o.dst=some x→t'.o.dst≠some x)∧(∀x,x∈t.mw.map (·.1)→x∉t'.mw.map (·.1)))→
  foldS (λj=>on j||j == k+i) k l s=(foldS on k l s).upd t:=by
 intro l k s t hi hoff hlate
 have hon:∀j,j≠i→(λj=>on j||j == k+i) (k+j)=on (k+j):=by
  intro j hj
  have:(k+j == k+i)=false:=by simp;exact hj
  simp[this]
 have e1:∀x,(foldS (λj=>on j||j == k+i) k l s).e x=((foldS on k l s).upd t).e x:=by
  intro x;by_cases hd:t.o.dst=some x
  ·
   have key:∀(l:List (TR F)) (k i:Nat) (s:(St F)) (on:Nat→Bool),l[i]? = some t→on (k+i)=true→(∀j t',l[j]? = some t'→i<j→on (k+j)=true→t'.o.dst≠some x)→(foldS on k l s).e x=some t.val:=by
    intro l
    induction l with
    | nil=>intro k i s on h;simp at h
    | cons t0 l ih=>
     intro k i s on h1 h2 h3
     cases i with
     | zero=>
      simp only[List.getElem?_cons_zero,Option.some.injEq]at h1;subst h1;simp only[foldS]
      rw[if_pos (by simpa using h2),Da]
      ·simp[St.upd,hd]
      ·intro j t' hj hdd
       cases hon:on (k+1+j)with
       | false=>rfl
       | true=>exact absurd hdd (h3 (j+1) t' (by simpa using hj) (by omega) (by rw[← hon];congr 1;omega))
     | succ i=>
      simp only[foldS]
      exact ih (k+1) i _ on (by simpa using h1) (by rw[← h2];congr 1;omega) (λj t' hj hij ho=>h3 (j+1) t' (by simpa using hj) (by omega) (by rw[← ho];congr 1;omega))
   rw[key l k i s _ hi (by simp) (λj t' hj hij ho=>(hlate j t' hj hij (by rw[← hon j (by omega)];exact ho)).1 x hd)]
   simp[St.upd,hd]
  ·rw[yb _ on x l k s s rfl]
   ·simp[St.upd,hd]
   ·intro j t' hj hdd;refine hon j (λe=>hd ?_);subst e;rw[hi]at hj;cases hj;exact hdd
 have e2:∀x,(foldS (λj=>on j||j == k+i) k l s).m x=((foldS on k l s).upd t).m x:=by
  intro x;by_cases hd:x∈t.mw.map (·.1)
  ·have key:∀(l:List (TR F)) (k i:Nat) (s:(St F)) (on:Nat→Bool),l[i]? = some t→on (k+i)=true→(∀j t',l[j]? = some t'→i<j→on (k+j)=true→x∉t'.mw.map (·.1))→(foldS on k l s).m x=updM (λ_=>none) t.mw x:=by
    intro l
    induction l with
    | nil=>intro k i s on h;simp at h
    | cons t0 l ih=>
     intro k i s on h1 h2 h3
     cases i with
     | zero=>
      simp only[List.getElem?_cons_zero,Option.some.injEq]at h1;subst h1;simp only[foldS]
      rw[if_pos (by simpa using h2),DA]
      ·exact yf _ _ _ x hd
      ·intro j t' hj hdd
       cases hon:on (k+1+j)with
       | false=>rfl
       | true=>exact absurd hdd (h3 (j+1) t' (by simpa using hj) (by omega) (by rw[← hon];congr 1;omega))
     | succ i=>
      simp only[foldS]
      exact ih (k+1) i _ on (by simpa using h1) (by rw[← h2];congr 1;omega) (λj t' hj hij ho=>h3 (j+1) t' (by simpa using hj) (by omega) (by rw[← ho];congr 1;omega))
   rw[key l k i s _ hi (by simp) (λj t' hj hij ho=>(hlate j t' hj hij (by rw[← hon j (by omega)];exact ho)).2 x hd)]
   exact yf _ _ _ x hd
  ·rw[xR _ on x l k s s rfl]
   ·exact(cx _ _ x hd).symm
   ·intro j t' hj hdd;refine hon j (λe=>hd ?_);subst e;rw[hi]at hj;cases hj;exact hdd
 have e3:∀x,(foldS (λj=>on j||j == k+i) k l s).u x=((foldS on k l s).upd t).u x:=by
  intro x;rw[Bool.eq_iff_iff,oi];simp only[St.upd,Bool.or_eq_true];rw[oi];constructor
  ·rintro(h | ⟨j,t',h1,h2,h3⟩)
   ·exact .inr (.inl h)
   ·by_cases hj:j=i
    ·subst hj;rw[hi]at h1;cases h1;exact .inl h3
    ·have h2':on (k+j)=true:=by
      rw[← hon j hj];simpa using h2
     exact .inr (.inr ⟨j,t',h1,h2',h3⟩)
  ·rintro(h | h | ⟨j,t',h1,h2,h3⟩)
   ·exact .inr ⟨i,t,hi,by simp,h⟩
   ·exact .inl h
   ·exact .inr ⟨j,t',h1,by simp[h2],h3⟩
 cases hA:foldS (λj=>on j||j == k+i) k l s
 cases hB:(foldS on k l s).upd t
 rw[hA,hB]at e1 e2 e3;simp only[St.mk.injEq];exact⟨funext e1,funext e2,funext e3⟩
theorem tM:∀(l:List (TR F)) (k:Nat) (s s':St F) (on:Nat→Bool),Chain s l s'→(∀j,j<l.length→on (k+j)=true)→foldS on k l s=s'
 | [],k,s,s',on,h,_=>by have h':s'=s:=h;subst h';rfl
 | t::l,k,s,s',on,h,ho=>by
  obtain⟨h1,h2⟩:=h;simp only[foldS]
  rw[if_pos (by simpa using ho 0 (by simp)),← h1]
  exact tM l (k+1) t.next s' on h2 (λj hj=>by have:=ho (j+1) (by simp;omega);rw[← this];congr 1;omega)
theorem zn:∀(l:List (TR F)) (k:Nat) (s s':St F) (i:Nat) (t:TR F),Chain s l s'→l[i]? = some t→t.s=foldS (λj=>decide (j<k+i)) k l s
 | [],k,s,s',i,t,_,hi=>by simp at hi
 | t0::l,k,s,s',i,t,h,hi=>by
  obtain⟨h1,h2⟩:=h
  cases i with
  | zero=>
   simp only[List.getElem?_cons_zero,Option.some.injEq]at hi;subst hi
   have:∀(l:List (TR F)) (k':Nat) (s:(St F)),k≤k'→(foldS (λj=>decide (j<k+0)) k' l s)=s:=by
    intro l
    induction l with
    | nil=>intro k' s _;rfl
    | cons t l ih=>intro k' s hk;simp only[foldS];rw[if_neg (by simp;omega)];exact ih (k'+1) s (by omega)
   rw[this _ k _ (Nat.le_refl _),h1]
  | succ i=>
   simp only[foldS]
   rw[if_pos (by simp),← h1]
   have:=zn l (k+1) t0.next s' i t h2 (by simpa using hi)
   rw[this]
   congr 1
   funext j
   congr 1
   apply propext
   constructor<;>intro h<;>omega
variable{P:Program}{n:Nat}{ops:List Oper}{own:Ow}{W0:World}
def onOf(listed:Array Bool):Nat→Bool:=λk=>listed.getD k false
theorem Eo{l:List Edge}{e:Edge}(h:e∈l)(hb:Region.binds .any e=true):e.on∈edgesOn l:=by
 induction l with
 | nil=>simp at h
 | cons x l ih=>
  simp only[edgesOn];rcases List.mem_cons.1 h with rfl | h
  ·rw[if_pos hb];simp
  ·split
   ·exact List.mem_cons_of_mem _ (ih h)
   ·exact ih h
theorem EA{l:List Edge}{k:Nat}(h:k∈edgesOn l):∃e∈l,Region.binds .any e=true∧e.on=k:=by
 induction l with
 | nil=>simp[edgesOn]at h
 | cons x l ih=>
  simp only[edgesOn]at h;split at h
  ·rename_i hb;rcases List.mem_cons.1 h with rfl | h
   ·exact⟨x,by simp,hb,rfl⟩
   ·obtain⟨e,h1,h2⟩:=ih h
    exact⟨e,by simp[h1],h2⟩
  ·obtain⟨e,h1,h2⟩:=ih h
   exact⟨e,by simp[h1],h2⟩
theorem Ha(on:Nat→Bool)(tr:List (TR F))(hrec:∀i t,tr[i]? = some t→t.anc=ancOf ((tr.map (·.rc ops)).take i) (edgesOn t.o.after.toList))
  (hedge:∀i t,tr[i]? = some t→∀k∈edgesOn t.o.after.toList,k<i) (hclosed:∀i t,tr[i]? = some t→on i=true→∀k∈edgesOn t.o.after.toList,on k=true) :
  ∀(i:Nat)(t:TR F),tr[i]? = some t→(∀k∈edgesOn t.o.after.toList,on k=true)→∀k,Nat.testBit t.anc k=true→on k=true:=by
 intro i
 induction i using Nat.strongRecOn with
 | _ i ih=>
  intro t hi hon k hk;rw[hrec i t hi]at hk;have hedg:=hedge i t hi
  have key:∀(es:List Nat),(∀k∈es,k<i∧on k=true)→∀k,Nat.testBit (ancOf ((tr.map (·.rc ops)).take i) es) k=true→on k=true:=by
   intro es
   induction es with
   | nil=>intro _ k hk;simp[ancOf]at hk
   | cons d es ihe=>
    intro hes k hk
    rw[ancOf,show∀a b:Nat,Nat.lor a b=a ||| b fromλ_ _=>rfl,show∀a b:Nat,Nat.lor a b=a ||| b fromλ_ _=>rfl,Nat.testBit_or,Nat.testBit_or,Nat.testBit_two_pow]at hk
    simp only[Bool.or_eq_true,decide_eq_true_eq,or_assoc]at hk
    obtain⟨hd1,hd2⟩:=hes d (by simp)
    rcases hk with rfl | hk | hk
    ·exact hd2
    ·rw[List.getElem?_take,if_pos hd1,List.getElem?_map]at hk
     cases ht:tr[d]? with
     | none=>rw[ht]at hk;simp at hk
     | some td=>rw[ht]at hk;simp only[Option.map_some,Option.elim_some]at hk;exact ih d hd1 td ht (hclosed d td ht hd2) k hk
    ·exact ihe (λk hk=>hes k (by simp[hk])) k hk
  exact key _ (λk hk=>⟨hedg k hk,hon k hk⟩) k hk
theorem wt{b:Rec}:∀{l:List Rec}{i:Nat},ul b i l=true→∀j a,l[j]? = some a→Nat.testBit b.anc (i+j)=true∨a.conflict b=false
 | [],_,_,j,a,h=>by simp at h
 | x::l,i,ho,j,a,h=>by
  simp only[ul,Bool.and_eq_true,Bool.or_eq_true,Bool.not_eq_true']at ho
  cases j with
  | zero=>simp only[List.getElem?_cons_zero,Option.some.injEq]at h;subst h;exact ho.1
  | succ j=>
   have:=wt ho.2 j a (by simpa using h)
   rw[show i+(j+1)=i+1+j by omega]
   exact this
theorem yL(all:List Rec):∀{l:List Rec}{k:Nat},all.drop k=l→k≤all.length→wo all l=true→∀j b,l[j]? = some b→ul b 0 (all.take (k+j))=true
 | [],_,_,_,_,j,b,h=>by simp at h
 | x::l,k,hd,hk,ho,j,b,h=>by
  simp only[wo,Bool.and_eq_true]at ho
  have hlen:all.length=k+(x::l).length:=by have:=congrArg List.length hd;rw[List.length_drop]at this;omega
  cases j with
  | zero=>
   simp only[List.getElem?_cons_zero,Option.some.injEq]at h;subst h;have h1:=ho.1
   rw[show all.length - (x::l).length=k+0 by omega]at h1
   exact h1
  | succ j=>
   have hd':all.drop (k+1)=l:=by rw[← List.drop_drop,hd];rfl
   have:=yL all hd' (by simp at hlen;omega) ho.2 j b (by simpa using h)
   rw[show k+(j+1)=k+1+j by omega]
   exact this
theorem wz:∀{l:List Oper}{i:Nat},uf i l=true→∀j o,l[j]? = some o→∀k∈edgesOn o.after.toList,k<i+j
 | [],_,_,j,o,h=>by simp at h
 | x::l,i,he,j,o,h=>by
  simp only[uf,Bool.and_eq_true]at he
  cases j with
  | zero=>simp only[List.getElem?_cons_zero,Option.some.injEq]at h;subst h;intro k hk;have:=List.all_eq_true.1 he.1 k hk;simpa using this
  | succ j=>
   have:=wz he.2 j o (by simpa using h)
   intro k hk;have:=this k hk;omega
theorem Cr:∀{tr:List (TR F)} {rs:List Rec},z9 ops rs tr→∀i t,tr[i]? = some t→t.anc=ancOf (rs++(tr.map (·.rc ops)).take i) (edgesOn t.o.after.toList)
 | [],_,_,i,t,h=>by simp at h
 | x::tr,rs,hr,i,t,h=>by
  obtain⟨h1,h2⟩:=hr
  cases i with
  | zero=>simp only[List.getElem?_cons_zero,Option.some.injEq]at h;subst h;simpa using h1
  | succ i=>
   have:=Cr h2 i t (by simpa using h)
   rw[this]
   congr 1
   simp
theorem wS{a b:List Nat}(h:meets a b=false){x:Nat}(ha:x∈a):x∉b:=by
 induction a with
 | nil=>simp at ha
 | cons y a ih=>
  simp only[meets,Bool.or_eq_false_iff]at h;rcases List.mem_cons.1 ha with rfl | ha
  ·intro hb;rw[aF.2 hb]at h;cases h.1
  ·exact ih h.2 ha
theorem kG{a b:Rec}(h:a.conflict b=false):(∀x,a.d=some x→x∉b.rs∧b.d≠some x)∧(∀x,b.d=some x→x∉a.rs)∧(∀x,x∈a.wm→x∉b.tm∧x∉b.wm)∧(∀x,x∈b.wm→x∉a.tm):=by
 simp only[Rec.conflict,Bool.or_eq_false_iff]at h;obtain⟨⟨⟨⟨h1,h2⟩,h3⟩,h4⟩,h5⟩:=h;refine⟨?_,?_,λx hx=>⟨wS h3 hx,wS h4 hx⟩,λx hx=>wS h5 hx⟩
 ·intro x hx;rw[hx]at h1;simp only[Bool.or_eq_false_iff]at h1;refine⟨λhb=>?_,λhb=>?_⟩
  ·rw[aF.2 hb]at h1;cases h1.1
  ·rw[hb]at h1;simp at h1
 ·intro x hx ha;rw[hx]at h2;simp only at h2;rw[aF.2 ha]at h2;cases h2
theorem An{opsA:Array Oper}(hops:opsA.toList=ops){Q:Exit→Act→World→Prop}{tr:List (TR F)}{s s':St F}(htr:tr.map (·.o)=ops)(hc:Chain s tr s')(hok:∀t∈tr,TR.ok P n ops t)
  (hrec:z9 ops [] tr) (hedges:uf 0 ops=true) (hord:wo (tr.map (·.rc ops)) (tr.map (·.rc ops))=true) {g:G} {a:Act} {w:World} (hgood:Good P own W0 n s g a w)
  (hQ:∀g' a' w',Good P own W0 n s' g' a' w'→Q .normal a' w'):wpAny P .any opsA Q opsA.size (Array.replicate opsA.size false) a w:=by
 have hsize:opsA.size=tr.length:=by rw[← Array.length_toList,hops,← htr,List.length_map]
 have hat:∀(i:Nat)(t:TR F),tr[i]? = some t→opsA[i]? = some t.o:=by
  intro i t hi
  have:ops[i]? = some t.o:=by rw[← htr,List.getElem?_map,hi];rfl
  rw[← hops]at this;simpa using this
 have hrec':∀(i:Nat)(t:TR F),tr[i]? = some t→t.anc=ancOf ((tr.map (·.rc ops)).take i) (edgesOn t.o.after.toList):=by intro i t hi;simpa using Cr hrec i t hi
 have hedge':∀(i:Nat)(t:TR F),tr[i]? = some t→∀k∈edgesOn t.o.after.toList,k<i:=by
  intro i t hi k hk
  have:ops[i]? = some t.o:=by rw[← htr,List.getElem?_map,hi];rfl
  have:=wz hedges i t.o this k hk;omega
 have hconf:∀(i j:Nat)(t u:TR F),tr[i]? = some t→tr[j]? = some u→j<i→Nat.testBit t.anc j=true∨(u.rc ops).conflict (t.rc ops)=false:=by
  intro i j t u hi hj hji
  have h1:=yL (tr.map (·.rc ops)) (l:=tr.map (·.rc ops)) (k:=0) rfl (Nat.zero_le _) hord i (t.rc ops) (by rw[List.getElem?_map,hi];rfl)
  have:=wt h1 j (u.rc ops) (by rw[Nat.zero_add,List.getElem?_take,if_pos hji,List.getElem?_map,hj];rfl)
  rwa [Nat.zero_add]at this
 have main:∀(fuel:Nat)(listed:Array Bool),listed.size=tr.length→(List.range tr.length).countP (λk=>!onOf listed k)≤fuel→
   (∀(i:Nat)(t:TR F),tr[i]? = some t→onOf listed i=true→∀k∈edgesOn t.o.after.toList,onOf listed k=true)→
   ∀{g:G}{a:Act}{w:World},Good P own W0 n (foldS (onOf listed) 0 tr s) g a w→wpAny P .any opsA Q fuel listed a w:=by
  intro fuel
  induction fuel with
  | zero=>
   intro listed hls hcnt hcl g a w hg
   have hall:∀k,k<tr.length→onOf listed k=true:=by
    intro k hk
    cases hon:onOf listed k with
    | true=>rfl
    | false=>
     have:0<(List.range tr.length).countP (λk=>!onOf listed k):=List.countP_pos_iff.2 ⟨k,by simpa using hk,by simp[hon]⟩
     omega
   refine⟨?_,?_⟩
   ·cases hr:Region.ready .any opsA listed with
    | nil=>rfl
    | cons i l=>
     have hi:i∈Region.ready .any opsA listed:=by rw[hr];simp
     obtain⟨h1,o,ho,_⟩:=mem_ready.1 hi
     have hlt:i<tr.length:=by rw[← hsize];exact(Array.getElem?_eq_some_iff.1 ho).1
     have h2:=hall i hlt;simp only[onOf,Array.getD_eq_getD_getElem?]at h1 h2
     rw[Array.getElem?_eq_getElem (by rw[hls];exact hlt)]at h1 h2
     simp only[Option.getD_some]at h1 h2;rw[h1]at h2;cases h2
   ·rw[tM tr 0 s s' (onOf listed) hc (λj hj=>by rw[Nat.zero_add];exact hall j hj)]at hg
    exact hQ g a w hg
  | succ fuel ih=>
   intro listed hls hcnt hcl g a w hg;refine⟨?_,?_⟩
   ·intro hr
    have hall:∀k,k<tr.length→onOf listed k=true:=by
     intro k
     induction k using Nat.strongRecOn with
     | _ k ihk=>
      intro hk
      cases hon:onOf listed k with
      | true=>rfl
      | false=>
       exfalso;have hk':=LP hk
       have:k∈Region.ready .any opsA listed:=by
        refine mem_ready.2 ⟨?_,tr[k].o,hat k _ hk',?_⟩
        ·simp only[onOf,Array.getD_eq_getD_getElem?]at hon ⊢
         rw[Array.getElem?_eq_getElem (by rw[hls];exact hk)]at hon ⊢
         exact hon
        ·intro e he hb
         have hmem:e.on∈edgesOn tr[k].o.after.toList:=Eo (by simpa using he) hb
         have hlt:=hedge' k _ hk' e.on hmem
         exact ihk e.on hlt (by omega)
       rw[hr]at this;simp at this
    rw[tM tr 0 s s' (onOf listed) hc (λj hj=>by rw[Nat.zero_add];exact hall j hj)]at hg
    exact hQ g a w hg
   ·intro i hi;obtain⟨h1,o,ho,hdeps⟩:=mem_ready.1 hi
    have hlt:i<tr.length:=by rw[← hsize];exact(Array.getElem?_eq_some_iff.1 ho).1
    have hti:=LP hlt;generalize htdef:tr[i]=t at hti;have hoo:opsA[i]? = some t.o:=hat i t hti;rw[ho]at hoo;cases hoo
    have hoff:onOf listed i=false:=by
     simp only[onOf,Array.getD_eq_getD_getElem?]at h1 ⊢
     rw[Array.getElem?_eq_getElem (by rw[hls];exact hlt)]at h1 ⊢
     exact h1
    have hdep:∀k∈edgesOn t.o.after.toList,onOf listed k=true:=by
     intro k hk;obtain⟨e,he,hb,rfl⟩:=EA hk
     exact hdeps e (by simpa using he) hb
    have hanc:=Ha (ops:=ops) (onOf listed) tr hrec' hedge' hcl i t hti hdep;have hancOf:∀(j:Nat)(u:TR F),tr[j]? = some u→onOf listed j=true→∀k,Nat.testBit u.anc k=true→onOf listed k=true:=λj u hj hon=>Ha (ops:=ops) (onOf listed) tr hrec' hedge' hcl j u hj (hcl j u hj hon)
    have ahead:∀(j:Nat)(u:TR F),tr[j]? = some u→j<i→(u.rc ops).conflict (t.rc ops)=true→onOf listed j=true:=by
     intro j u hj hji hcf;rcases hconf i j t u hti hj hji with h | h
     ·exact hanc j h
     ·rw[hcf]at h;cases h
    have behind:∀(j:Nat)(u:TR F),tr[j]? = some u→i<j→(t.rc ops).conflict (u.rc ops)=true→onOf listed j=false:=by
     intro j u hj hij hcf
     cases hon:onOf listed j with
     | false=>rfl
     | true=>
      rcases hconf j i u t hj hti hij with h | h
      ·have:=hancOf j u hj hon i h;rw[hoff]at this;cases this
      ·rw[hcf]at h;cases h
    have okt:=hok t (List.mem_of_getElem? hti);have hst:=zn tr 0 s s' i t hc hti;simp only[Nat.zero_add]at hst
    have agree:∀(j:Nat)(u:TR F),tr[j]? = some u→((u.rc ops).conflict (t.rc ops)=true∨(t.rc ops).conflict (u.rc ops)=true)→j≠i→onOf listed j=decide (j<i):=by
     intro j u hj hcf hne
     have symm:∀a b:Rec,a.conflict b=true→b.conflict a=true:=by
      intro a b h
      cases hba:b.conflict a with
      | true=>rfl
      | false=>
       obtain⟨k1,k2,k3,k4⟩:=kG hba;exfalso
       have:a.conflict b=false:=by
        simp only[Rec.conflict,Bool.or_eq_false_iff]
        have mt:∀l r:List Nat,(∀x∈l,x∉r)→meets l r=false:=by
         intro l
         induction l with
         | nil=>intro r _;rfl
         | cons y l ihl=>
          intro r hr;simp only[meets,Bool.or_eq_false_iff]
          refine⟨?_,ihl r (λx hx=>hr x (by simp[hx]))⟩
          cases hm:memN y r with
          | false=>rfl
          | true=>exact absurd (aF.1 hm) (hr y (by simp))
        have nm:∀x (l:List Nat),x∉l→memN x l=false:=by
         intro x l hx
         cases hm:memN x l with
         | false=>rfl
         | true=>exact absurd (aF.1 hm) hx
        refine⟨⟨⟨⟨?_,?_⟩,mt _ _ (λx hx=>?_)⟩,mt _ _ (λx hx=>?_)⟩,mt _ _ (λx hx=>?_)⟩
        ·cases hd:a.d with
         | none=>rfl
         | some x=>
          simp only[Bool.or_eq_false_iff];refine⟨nm x _ (k2 x hd),?_⟩
          cases hd2:b.d with
          | none=>rfl
          | some y=>
           have:=(k1 y hd2).2;rw[hd]at this
           exact am (λe=>this (by rw[e]))
        ·cases hd:b.d with
         | none=>rfl
         | some x=>exact nm x _ (k1 x hd).1
        ·exact k4 x hx
        ·intro hb;exact(k3 x hb).2 hx
        ·exact(k3 x hx).1
       rw[this]at h;cases h
     rcases Nat.lt_trichotomy j i with hji | hji | hji
     ·rw[decide_eq_true hji];exact ahead j u hj hji (hcf.elim id (symm _ _))
     ·exact absurd hji hne
     ·rw[decide_eq_false (by omega)]
      exact behind j u hj hji (hcf.elim (symm _ _) id)
    refine Ba okt (s:=foldS (onOf listed) 0 tr s) ?_ ?_ ?_ hg hops (hat i t hti) ?_
    ·
     intro x hx;show _=t.s.e x;rw[hst];refine yb _ _ x tr 0 _ _ rfl ?_;intro j u hj hdst;rw[Nat.zero_add];by_cases hne:j=i
     ·subst hne
      rw[hoff,decide_eq_false (by omega)]
     ·refine agree j u hj (.inl ?_) hne
      cases hcf:(u.rc ops).conflict (t.rc ops)with
      | true=>rfl
      | false=>exact absurd hx ((kG hcf).1 x hdst).1
    ·intro id hid;show _=t.s.m id;rw[hst];refine xR _ _ id tr 0 _ _ rfl ?_;intro j u hj hmem;rw[Nat.zero_add];by_cases hne:j=i
     ·subst hne
      rw[hoff,decide_eq_false (by omega)]
     ·refine agree j u hj (.inl ?_) hne
      cases hcf:(u.rc ops).conflict (t.rc ops)with
      | true=>rfl
      | false=>exact absurd hid ((kG hcf).2.2.1 id hmem).1
    ·
     intro kk hkk
     have hid:t.nm (t.c+kk)=true:=by simp only[TR.nm,Bool.and_eq_true,decide_eq_true_eq];omega
     generalize t.c+kk=id at hid ⊢
     cases hu:(foldS (onOf listed) 0 tr s).u id with
     | false=>rfl
     | true=>
      exfalso;rw[oi]at hu;have hfr:=C3 okt.fresh hid;have hfr':t.s.u id=false:=hfr
      have hnot:¬ (t.s.u id=true):=by rw[hfr'];simp
      rcases hu with h | ⟨j,u,h1,h2,h3⟩
      ·refine hnot ?_;rw[hst,oi];exact .inl h
      ·rw[Nat.zero_add]at h2;rcases Nat.lt_trichotomy j i with hji | hji | hji
       ·refine hnot ?_;rw[hst,oi]
        exact .inr ⟨j,u,h1,by simpa using hji,h3⟩
       ·subst hji;rw[hoff]at h2;cases h2
       ·have oku:=hok u (List.mem_of_getElem? h1);have hfu:u.s.u id=false:=C3 oku.fresh h3
        have:u.s.u id=true:=by
         have hsu:=zn tr 0 s s' j u hc h1;simp only[Nat.zero_add]at hsu;rw[hsu,oi]
         exact .inr ⟨i,t,hti,by simpa using hji,hid⟩
        rw[hfu]at this;cases this
    ·intro g' a' w' hg'
     have hmore:=FX (onOf listed) i tr 0 s t hti (by rw[Nat.zero_add];exact hoff) (by
      intro j u hj hij hon;rw[Nat.zero_add]at hon
      cases hcf:(t.rc ops).conflict (u.rc ops)with
      | true=>rw[behind j u hj hij hcf]at hon;cases hon
      | false=>obtain⟨k1,_,k3,_⟩:=kG hcf;exact⟨λx hx=>(k1 x hx).2,λx hx=>(k3 x hx).2⟩)
     rw[Nat.zero_add]at hmore;rw[← hmore]at hg'
     have hon':onOf (listed.setIfInBounds i true) = λj=>onOf listed j||j == i:=by
      funext j
      simp only[onOf];by_cases hj:i=j
      ·subst hj
       have:(listed.setIfInBounds i true).getD i false=true:=by
        rw[Array.getD_eq_getD_getElem?,Array.getElem?_setIfInBounds,if_pos rfl,if_pos (by rw[hls];exact hlt)]
        rfl
       rw[this];simp
      ·rw[getD_set_ne false hj]
       have:(j == i)=false:=by simp;exactλe=>hj e.symm
       rw[this,Bool.or_false]
     refine ih (listed.setIfInBounds i true) (by simp[hls]) ?_ ?_ (by rw[hon'];exact hg')
     ·rw[hon']
      have hcount:(List.range tr.length).countP (λk=>!(onOf listed k||k == i))+1=(List.range tr.length).countP (λk=>!onOf listed k):=by
       have gen:∀(l:List Nat),l.Nodup→i∈l→l.countP (λk=>!(onOf listed k||k == i))+1=l.countP (λk=>!onOf listed k):=by
        intro l
        induction l with
        | nil=>intro _ h;simp at h
        | cons y l ihl=>
         intro hnd hmem;rw[List.nodup_cons]at hnd;by_cases hy:y=i
         ·subst hy
          have heq:l.countP (λk=>!(onOf listed k||k == y))=l.countP (λk=>!onOf listed k):=by
           apply List.countP_congr;intro x hx
           have:(x == y)=false:=by simp;rintro rfl;exact hnd.1 hx
           simp[this]
          rw[List.countP_cons,List.countP_cons,heq,hoff];simp
         ·have hmem':i∈l:=by
           rcases List.mem_cons.1 hmem with h | h
           ·exact absurd h.symm hy
           ·exact h
          have:=ihl hnd.2 hmem';rw[List.countP_cons,List.countP_cons,← this]
          have hyi:(y == i)=false:=by simp;exact hy
          rw[hyi,Bool.or_false];omega
       exact gen _ List.nodup_range (by simpa using hlt)
      show(List.range tr.length).countP (λk=>!(onOf listed k||k == i))≤fuel;omega
     ·rw[hon'];intro j u hj hon k hk;simp only[Bool.or_eq_true,beq_iff_eq]at hon ⊢;rcases hon with hon | rfl
      ·exact .inl (hcl j u hj hon k hk)
      ·rw[hti]at hj;cases hj;exact .inl (hdep k hk)
 refine main opsA.size (Array.replicate opsA.size false) (by simp[hsize]) ?_ ?_ (g:=g) ?_
 ·rw[hsize]
  exact Nat.le_trans List.countP_le_length (by simp)
 ·intro i t hi hon;simp only[onOf]at hon;simp[Array.getD_eq_getD_getElem?,Array.getElem?_replicate]at hon
  split at hon<;>simp at hon
 ·have:foldS (onOf (Array.replicate opsA.size false)) 0 tr s=s:=by
   have gen:∀(l:List (TR F)) (k:Nat) (s:(St F)),foldS (onOf (Array.replicate opsA.size false)) k l s=s:=by
    intro l
    induction l with
    | nil=>intro k s;rfl
    | cons t l ihl=>
     intro k s;simp only[foldS];rw[if_neg]
     ·exact ihl (k+1) s
     ·simp only[onOf,Array.getD_eq_getD_getElem?,Array.getElem?_replicate]
      split<;>simp
   exact gen tr 0 s
  rw[this];exact hgood
end
set_option linter.unusedVariables false
set_option linter.unusedSimpArgs false
section
variable{F:Fam}{P:Program}{T:TypeId→Option (TI F)}{Γ : Ctx F}{nv n:Nat}{R:Type}{own:Ow}{W0:World}{a:Act}{w:World}{g:G}
theorem wY{s:St F}(hg:Good P own W0 n s g a w):Good P own W0 n s g a w.drew:=by have hle:Le g w g w.drew:=⟨λ_ _ h=>h,λ_ h=>h,λ_ _=>rfl,λ_ h=>h,λ_ _=>rfl⟩;exact⟨hg.dfr,hg.tsz,λx d h=>(hg.env x d h).le hle,⟨λid B h=>(hg.mem.ok id B h).le hle (λ_ _ _=>rfl),hg.mem.dis,hg.mem.own,hg.mem.imm,hg.mem.io,hg.mem.len⟩,hg.dom,hg.ini,⟨hg.frm.os,hg.frm.tape,hg.frm.output,hg.frm.size,hg.frm.fresh,hg.frm.block,Nat.le_succ_of_le hg.frm.drawn⟩,hg.nam⟩
theorem Good.sub{s s':St F}(h:Good P own W0 n s g a w)(he:∀x d,s'.e x=some d→s.e x=some d)(hm:∀id B,s'.m id=some B→s.m id=some B)(hu:∀id,s'.u id=false→s.u id=false):Good P own W0 n s' g a w:=
 ⟨h.dfr,h.tsz,λx d hx=>h.env x d (he x d hx),h.mem.sub hm,λid hi=>h.dom id (hu id hi),h.ini,h.frm,h.nam⟩
theorem lI{kp:List Nat}:∀{E:List (Nat×Dat F)} {seen:List Nat} {K:List (Nat×Dat F)→Option R} {r:R},uk nv kp E seen K=some r→
  ∃E',K E'=some r∧∀y,look E' y=if(Nat.blt y nv||memN y kp)&&!(memN y seen)then look E y else none
 | [],seen,K,r,h=>⟨[],h,λy=>by simp[look]⟩
 | (x,d)::E,seen,K,r,h=>by
  simp only[uk]at h;split at h
  ·rename_i hc;obtain⟨E',h1,h2⟩:=lI h;refine⟨_,h1,λy=>?_⟩;rw[ar,ar,h2];by_cases hxy:x=y
   ·subst hxy;rw[aV,if_pos rfl,if_pos rfl,if_pos hc]
   ·rw[am hxy];simp[memN,am hxy]
  ·rename_i hc;obtain⟨E',h1,h2⟩:=lI h;refine⟨E',h1,λy=>?_⟩;rw[h2,ar];by_cases hxy:x=y
   ·subst hxy;rw[if_neg hc,if_neg hc]
   ·rw[am hxy];simp
theorem KR(hT:TblOk P T)(hΓ : CtxOk P Γ)(hmix:P.follows .mixedOrders=true){id:Nat}{opsA:Array Oper}{draw:Bool}{kp:List Nat}{s:TS F}{K:TS F→Option R}{r:R}
  (h:tReg T Γ nv n kp opsA.toList draw s K=some r) {Q:Exit→Act→World→Prop} (hg:Good P own W0 n s.st g a w)
  (hQ:∀s' g' a' w',K s'=some r→Fr nv s s'→Good P own W0 n s'.st g' a' w'→Q .normal a' w'):(Code.region id opsA draw).wp P Q a w:=by
 unfold tReg at h;obtain⟨z,tr,h1,t1,t2,t3,t4,t5⟩:=qX hT hΓ h;obtain⟨hord,h1⟩:=aI h1;obtain⟨E',h2,h3⟩:=lI h1
 have hQ':∀g' a' w',Good P own W0 n z.st g' a' w'→Q .normal a' w':=by
  intro g' a' w' hg';refine hQ _ g' a' w' h2 ⟨λx hx hn=>?_,t5.m,t5.c,t5.dE,t5.dM⟩ (hg'.sub ?_ (λ_ _ h=>h) (λ_ h=>h))
  ·show look E' x=_
   rw[h3,if_pos (by simp[memN,Nat.blt_eq.mpr hx])]
   exact t5.e x hx hn
  ·intro x d hx;simp only[TS.st]at hx ⊢;rw[h3]at hx;split at hx
   ·exact hx
   ·cases hx
 cases draw with
 | false=>
  have hlen:opsA.size=tr.length:=by rw[← Array.length_toList,← t1,List.length_map]
  refine wp_region ?_
  have:=pe (opsA:=opsA) rfl (Q:=Q) tr 0 s.st z.st (by
   intro j
   have:opsA.toList[j]? = (tr.map (·.o))[j]?:=by rw[t1]
   rw[List.getElem?_map]at this;rw[← this];simp) t2 t3 hg hQ'
  rw[← hlen]at this;rw[List.range_eq_range'];exact this
 | true=>simp only[if_true,Bool.and_eq_true,List.nil_append]at hord;refine wp_region_any hmix ?_;exact An (opsA:=opsA) rfl t1 t2 t3 t4 hord.1 hord.2 (wY hg) hQ'
inductive CelIn(p:Nat→Prop):Cel F→Prop where
 | im (d:ND F):CelIn p (.im d)
 | pt (cs:List (ND F)) (off:Nat):CelIn p (.pt cs off)
 | ptr {id:Nat} (off:Nat) (h:p id):CelIn p (.ptr id off)
 | pel {id:Nat} (sz i off:Nat) (h:p id):CelIn p (.pel id sz i off)
 | wsl {id:Nat} (h:p id):CelIn p (.wsl id)
 | lsl {id:Nat} (sz off n:Nat) (h:p id):CelIn p (.lsl id sz off n)
 | nsl {id:Nat} (sz i off:Nat) (h:p id):CelIn p (.nsl id sz i off)
 | nel {id:Nat} (sz i off sz' j off':Nat) (h:p id):CelIn p (.nel id sz i off sz' j off')
 | bsl {id:Nat} (n:Nat) (h:p id):CelIn p (.bsl id n)
 | mpc {id:Nat} (h:p id):CelIn p (.mpc id)
 | ppt (cs:List (ND F)):CelIn p (.ppt cs)
 | ln (d:ND F):CelIn p (.ln d)
 | lpt (cs:List (ND F)) (off:Nat):CelIn p (.lpt cs off)
 | any:CelIn p .any
 | one:CelIn p .one
inductive DatIn(p:Nat→Prop):Dat F→Prop where
 | c {x:Cel F} (h:CelIn p x):DatIn p (.c x)
 | agg {cs:List (Cel F)} (h:∀(k:Nat)(c:Cel F),cs[k]? = some c→CelIn p c):DatIn p (.agg cs)
 | tup {ds:List (Dat F)} (h:∀(k:Nat)(d:Dat F),ds[k]? = some d→DatIn p d):DatIn p (.tup ds)
 | clo {fn:Fn} {fs cs:List (Dat F)} (h:∀(k:Nat)(d:Dat F),fs[k]? = some d→DatIn p d) (h':∀(k:Nat)(d:Dat F),cs[k]? = some d→DatIn p d):DatIn p (.clo fn fs cs)
 | fv {ks:List Ty} {r:Ty} (φ : TupT F ks→Option (ET F r)):DatIn p (.fv ks r φ)
theorem RepC.inn{c:Cel F}{x:Value}(h:RepC g w c x):CelIn (λid=>g.ids id≠none) c:=by
 cases h with
 | im=>exact .im _
 | pt=>exact .pt _ _
 | ptr h=>exact .ptr _ (by rw[h];simp)
 | pel h=>exact .pel _ _ _ (by rw[h];simp)
 | wsl0 p h=>exact .wsl (by rw[h];simp)
 | wsl h=>exact .wsl (by rw[h];simp)
 | lsl0 p h=>exact .lsl _ _ _ (by rw[h];simp)
 | lsl h=>exact .lsl _ _ _ (by rw[h];simp)
 | nsl h=>exact .nsl _ _ _ (by rw[h];simp)
 | nel h=>exact .nel _ _ _ _ _ _ (by rw[h];simp)
 | bsl h=>exact .bsl _ (by rw[h];simp)
 | mpc h=>exact .mpc (by rw[h];simp)
 | ppt=>exact .ppt _
 | ln=>exact .ln _
 | lpt=>exact .lpt _ _
 | any=>exact .any
 | one=>exact .one
theorem RepD.inn{d:Dat F}{x:Value}(h:RepD P g w d x):DatIn (λid=>g.ids id≠none) d:=by
 induction h with
 | c h=>exact .c h.inn
 | agg hl h=>
  refine .agg λk c hk=>?_;have hlt:=(LQ.1 hk).1
  exact(h k c _ hk (LP (by rw[hl];exact hlt))).inn
 | tup hl h ih=>
  refine .tup λk c hk=>?_;have hlt:=(LQ.1 hk).1
  exact ih k c _ hk (LP (by rw[hl];exact hlt))
 | clo h1 h2 hf hc i1 i2=>
  refine .clo (λk c hk=>?_) (λk c hk=>?_)
  ·have hlt:=(LQ.1 hk).1
   exact i1 k c _ hk (LP (by rw[h1];exact hlt))
  ·have hlt:=(LQ.1 hk).1
   exact i2 k c _ hk (LP (by rw[h2];exact hlt))
 | fv=>exact .fv _
theorem RepC.ren{p:Nat→Prop}{g':G}(hids:∀id,p id→g'.ids id=g.ids id)(himm:∀b,g.imm b→g'.imm b)(hlen:∀b,g.len b→g'.len b){c:Cel F}(hc:CelIn p c){x:Value}(h:RepC g w c x):RepC g' w c x:=by
 have hle:∀{d:ND F}{x:Value},RepI w g.imm d x→RepI w g'.imm d x:=λh=>h.mono himm (λ_ _=>rfl)
 cases h with
 | im h=>exact .im (hle h)
 | pt cs off b o f hb hcc hr=>exact .pt cs off b o f (himm b hb) hcc (λk d hk=>hle (hr k d hk))
 | ptr h=>cases hc with | ptr _ hp=>exact .ptr (by rw[hids _ hp];exact h)
 | pel h=>cases hc with | pel _ _ _ hp=>exact .pel (by rw[hids _ hp];exact h)
 | wsl0 p h=>cases hc with | wsl hp=>exact .wsl0 p (by rw[hids _ hp];exact h)
 | wsl h h1 h2=>cases hc with | wsl hp=>exact .wsl (by rw[hids _ hp];exact h) h1 h2
 | lsl0 p h=>cases hc with | lsl _ _ _ hp=>exact .lsl0 p (by rw[hids _ hp];exact h)
 | lsl h h1 h2 h3 h4=>cases hc with | lsl _ _ _ hp=>exact .lsl (by rw[hids _ hp];exact h) h1 h2 h3 h4
 | nsl h h1 h2=>cases hc with | nsl _ _ _ hp=>exact .nsl (by rw[hids _ hp];exact h) h1 h2
 | nel h h1=>cases hc with | nel _ _ _ _ _ _ hp=>exact .nel (by rw[hids _ hp];exact h) h1
 | bsl h hm=>cases hc with | bsl _ hp=>exact .bsl (by rw[hids _ hp];exact h) hm
 | mpc h=>cases hc with | mpc hp=>exact .mpc (by rw[hids _ hp];exact h)
 | ppt cs b o b2 o2 f hb hv hb2 hcc hr=>exact .ppt cs b o b2 o2 f (himm b hb) hv (himm b2 hb2) hcc (λk d hk=>hle (hr k d hk))
 | ln h=>exact .ln (h.mono (λb hb=>hb.imp (himm b) (hlen b)) (λ_ _=>rfl))
 | lpt cs off b o f hb hcc hr=>exact .lpt cs off b o f (hb.imp (himm b) (hlen b)) hcc (λk d hk=>(hr k d hk).mono (λb hb=>hb.imp (himm b) (hlen b)) (λ_ _=>rfl))
 | any=>exact .any
 | one h=>exact .one h
theorem RepD.ren{p:Nat→Prop}{g':G}(hids:∀id,p id→g'.ids id=g.ids id)(himm:∀b,g.imm b→g'.imm b)(hlen:∀b,g.len b→g'.len b){d:Dat F}{x:Value}(h:RepD P g w d x):DatIn p d→RepD P g' w d x:=by
 induction h with
 | c h=>intro hd;cases hd with | c hc=>exact .c (h.ren hids himm hlen hc)
 | agg hl h=>intro hd;cases hd with | agg hc=>exact .agg hl (λk c x a b=>(h k c x a b).ren hids himm hlen (hc k c a))
 | tup hl h ih=>intro hd;cases hd with | tup hc=>exact .tup hl (λk c x a b=>ih k c x a b (hc k c a))
 | clo h1 h2 hf hc i1 i2=>intro hd;cases hd with | clo k1 k2=>exact .clo h1 h2 (λk c x a b=>i1 k c x a b (k1 k c a)) (λk c x a b=>i2 k c x a b (k2 k c a))
 | fv h=>intro _;obtain⟨fid,bound,captured,h1,h0,h2,h3⟩:=h;exact .fv ⟨fid,bound,captured,h1,h0,h2,λw2 imm2 k1 k2=>h3 w2 imm2 (λb hb=>k1 b (himm b hb)) k2⟩
theorem BlkOk.ren{p:Nat→Prop}{g':G}(hids:∀id,p id→g'.ids id=g.ids id)(himm:∀b,g.imm b→g'.imm b)(hlen:∀b,g.len b→g'.len b){id:Nat}(hp:p id){B:Blk F}(hB:∀(cs:List (Cel F)),B = .box cs→∀(k:Nat)(c:Cel F),cs[k]? = some c→CelIn p c)(hA:∀k n,B = .als k n→p k)(h:BlkOk g w id B):BlkOk g' w id B:=by
 have hle:∀{d:ND F}{x:Value},RepI w g.imm d x→RepI w g'.imm d x:=λh=>h.mono himm (λ_ _=>rfl);have hi:=hids id hp
 cases B with
 | box cs=>
  obtain⟨b,c,arr,t,h1,h2,h3,h4⟩:=h
  exact⟨b,c,arr,t,by rw[hi];exact h1,h2,h3,λk c x a b=>(h4 k c x a b).ren hids himm hlen (hB cs rfl k c a)⟩
 | row t l=>
  rcases h with⟨h1,h2⟩ | ⟨b,cap,cur,e,h1,h2,h3,h4,h5,h6⟩
  ·exact .inl ⟨by rw[hi];exact h1,h2⟩
  ·exact .inr ⟨b,cap,cur,e,by rw[hi];exact h1,h2,h3,h4,h5,λk d x a b=>hle (h6 k d x a b)⟩
 | nrow t l=>
  obtain⟨pl,h1,h2⟩:=h
  exact⟨pl,by rw[hi];exact h1,h2.chg himm (λ_ _=>rfl) (λ_ _ _ _ _=>rfl)⟩
 | fro t l=>
  rcases h with⟨h1,h2⟩ | ⟨b,cap,ns,h1,hn,h2,h3,h4,h5⟩
  ·exact .inl ⟨by rw[hi];exact h1,h2⟩
  ·exact .inr ⟨b,cap,ns,by rw[hi];exact h1,λb' hb'=>himm b' (hn b' hb'),himm b h2,h3,h4,λk d hk=>by obtain⟨x,k1,k2⟩:=h5 k d hk;exact⟨x,k1,hle k2⟩⟩
 | fbx cs=>
  obtain⟨b,c,h1,h2,h5⟩:=h
  exact⟨b,c,by rw[hi];exact h1,himm b h2,λk d hk=>by obtain⟨x,k1,k2⟩:=h5 k d hk;exact⟨x,k1,hle k2⟩⟩
 | mp t l=>
  obtain⟨b,h1,h2⟩:=h
  exact⟨b,by rw[hi];exact h1,h2.chg himm (λ_ _=>rfl) rfl⟩
 | it ob=>
  obtain⟨b,h1,h2⟩:=h
  exact⟨b,by rw[hi];exact h1,h2⟩
 | als k n=>exact SameM.mono (λr hr=>by rw[hi];exact hr) (λr hr=>by rw[hids k (hA k n rfl)];exact hr) h
 | lrow t l i ks=>
  obtain⟨pl,h1,h2⟩:=h
  exact⟨pl,by rw[hi];exact h1,h2.chg (λ_ _ _ _ _=>rfl) λk d x p hp hc=>hc.chg himm (λ_ _=>rfl) hp⟩
 | mrow t l j=>
  obtain⟨pl,h1,h2⟩:=h
  exact⟨pl,by rw[hi];exact h1,h2.chg (λ_ _ _ _ _=>rfl) λk d x p hp hc=>hc.chg himm (λ_ _=>rfl) hp⟩
theorem BlkOk.innA{id:Nat}{B:Blk F}(h:BlkOk g w id B):∀k n,B = .als k n→g.ids k≠none:=by
 rintro k n rfl
 rcases h with⟨_,_,_,_,_,h,_⟩ | ⟨_,h,_⟩<;>(rw[h];simp)
theorem BlkOk.inn{id:Nat}{B:Blk F}(h:BlkOk g w id B):∀(cs:List (Cel F)),B = .box cs→∀(k:Nat)(c:Cel F),cs[k]? = some c→CelIn (λid=>g.ids id≠none) c:=by
 rintro cs rfl k c hk;obtain⟨b,_,arr,t,h1,h2,h3,h4⟩:=h;have hlt:=(LQ.1 hk).1
 exact(h4 k c _ hk (LP (by rw[h3];exact hlt))).inn
def AsB1(o:Option Nat)(bx:Pl)(v v':Value):Prop:=
 match o with
 | some n=>n≤maxLen∧∃b c,bx=some (b,c)∧v = .slice (some ⟨b,0,none⟩) n n
 | none=>v=v'
def AsB(k:Kd)(bx:Pl)(v v':Value):Prop:=
 match k with
 | .box _ ow=>AsB1 (slOf ow) bx v v'
 | _=>v=v'
def pj(P:Program)(w:World)(imm:Nat→Prop)(e:Option Nat)(k:Kd)(x:k.El F)(v:Value)(pls:List Pl)(sb:List (Nat×Pl)):Prop:=
 match e with
 | some id=>∃bx v',sb = [(id,bx)]∧Held P w imm k x v' (bx::pls) [bx]∧k.isBox=true∧AsB k bx v v'
 | none=>sb = []∧∃bxs,Held P w imm k x v pls bxs
def HeldS(P:Program)(w:World)(imm:Nat→Prop)(val:Nat→Value)(s0:TS F):(ks:Ks)→TLS F ks→List Pl→List (Nat×Pl)→Prop
 | [],_,pls,sb=>pls = []∧sb = []
 | [k],x,pls,sb=>pj P w imm (dI k.2 (look s0.E k.1)) k.2 x (val k.1) pls sb
 | k::l::r,a,pls,sb=>∃p1 p2 b1 b2,pls=p1++p2∧sb=b1++b2∧pj P w imm (dI k.2 (look s0.E k.1)) k.2 a.1 (val k.1) p1 b1∧HeldS P w imm val s0 (l::r) a.2 p2 b2
def SbOk(g:G)(s0:TS F)(sb:List (Nat×Pl)):Prop:=∀q∈sb,g.ids q.1=some q.2∧∃x k,dI k (look s0.E x)=some q.1
theorem d8{k:Kd}{d:Option (Dat F)}{id:Nat}(h:dI k d=some id):(∃t ow,k = .box t ow∧d=some (bxD ow id))∨∃t arr,k = .row t arr∧d=some (datOf t arr id):=by
 unfold dI at h;split at h
 ·split at h
  ·rename_i hs;cases h;exact .inl ⟨_,_,rfl,by simp[bxD,hs]⟩
  ·cases h
 ·split at h
  ·rename_i hs;obtain⟨h1,h⟩:=aI h;cases h;have:=Nat.eq_of_beq_eq_true h1;subst this
   exact .inl ⟨_,_,rfl,by simp[bxD,hs]⟩
  ·cases h
 ·exact .inr ⟨_,_,rfl,congrArg some (w9 h)⟩
 ·cases h
theorem EJ{ow:List Nat}{id:Nat}{v:Value}(h:RepD (F:=F) P g w (bxD ow id) v):∃v',RepD P g w (toPtr (bxD (F:=F) ow id)) v'∧(∃b c,g.ids id=some (some (b,c)))∧∀(bx:Pl),g.ids id=some bx→AsB1 (slOf ow) bx v v':=by
 unfold bxD at h ⊢;generalize slOf ow=o at h ⊢
 cases o with
 | none=>obtain⟨b,c,h1,h2⟩:=bh h;exact⟨v,h,⟨b,c,h1⟩,λ_ _=>rfl⟩
 | some n=>obtain⟨b,c,h1,hm,h2⟩:=A_ h;refine⟨_,.c (.ptr h1),⟨b,c,h1⟩,λbx hb=>⟨hm,b,c,?_,h2⟩⟩;rw[h1]at hb;exact(Option.some.inj hb).symm
theorem IC{ow:List Nat}{id:Nat}{v v':Value}{bx:Nat×Nat×Nat}(hv':v' = .pointer (some ⟨bx.1,0,none⟩))(h:AsB1 (slOf ow) (some (pt3 bx)) v v')(hid:g.ids id=some (some (pt3 bx))):RepD (F:=F) P g w (bxD ow id) v:=by
 unfold bxD;generalize slOf ow=o at h ⊢
 cases o with
 | none=>have h:v=v':=h;subst h;subst hv';exact .c (.ptr hid)
 | some n=>obtain⟨hm,b,c,e,rfl⟩:=h;cases e;exact .c (.bsl hid hm)
theorem yY{s0 s:TS F}(hΓ : CtxOk P Γ)(hm:MemOk own g w (look s.M)){val:Nat→Value}(hv:∀x d,look s.E x=some d→RepD P g w d (val x)){x:Nat}{k:Kd}{p:Pk (k.El F)}(h:A0 Γ s0 s x k=some p){imm:Nat→Prop}(hi:Frz g p.fz imm) :
  ∃pls sb,pj P w imm (dI k (look s0.E x)) k p.x (val x) pls sb∧SbOk g s0 sb∧(∀q∈sb,some q.1∈p.os)∧(plBlks (p.os.map (plOf g))).Perm (plBlks (sb.map (·.2))++plBlks pls)∧Fzl (look s.M) p.fz∧(∀id,some id∈p.os→∃B,look s.M id=some B∧B.owned=true):=by
 unfold A0 at h;split at h
 ·rename_i id hs;split at h
  ·cases h
  ·rename_i d hd;split at h
   ·rename_i id' hs';obtain⟨hb,h'⟩:=aI h;have:=Nat.eq_of_beq_eq_true hb;subst this;rcases d8 hs with⟨t,ow,rfl,hs0⟩ | ⟨t,arr,rfl,hs0⟩
    ·rcases d8 hs' with⟨t',ow',e1,e2⟩ | ⟨t',arr',e1,e2⟩
     ·cases e1;cases e2
      obtain⟨v',p1,p2,p3⟩:=EJ (hv x _ hd);obtain⟨q,bx,os,h1,h2,h3,h4,h5,h6,h7,h8⟩:=my (t:=t) (ow:=ow) hm (λ_ _ h=>h) h' hi p1
      have hq:q=id:=by
       unfold bxD at h3
       cases hsl:slOf ow<;>rw[hsl]at h3<;>simp only[toPtr,Dat.c.injEq,Cel.ptr.injEq,and_true]at h3<;>exact h3.symm
      subst hq
      refine⟨os.map (plOf g),[(q,some (pt3 bx))],by unfold pj;rw[hs];exact⟨some (pt3 bx),v',rfl,⟨bx,_,rfl,rfl,h5,h6⟩,rfl,p3 _ h4⟩,?_,?_,?_,Fzl.of_rows h7,h8⟩
      ·intro q hq;rw[LS]at hq;subst hq;exact⟨h4,x,_,hs⟩
      ·intro q hq;rw[LS]at hq;subst hq;rw[h1];simp
      ·rw[h1];simp[plOf,h4,plBlks]
     ·cases e1
    ·have etp:toPtr d=d:=by
      rcases d8 hs' with⟨t',ow',e1,e2⟩ | ⟨t',arr',e1,e2⟩
      ·cases e1
      ·cases e2;unfold datOf;cases t'.isMp<;>cases arr'<;>rfl
     rw[etp]at h';obtain⟨q,pl,h1,h2,h3,h4,h5,h6,h7,l,h8⟩:=wE (t:=t) (arr:=arr) hm (λ_ _ h=>h) h' hi.imm (hv x _ hd);rcases d8 hs' with⟨t',ow',e1,e2⟩ | ⟨t',arr',e1,e2⟩
     ·cases e1
     ·cases e1
      have hq:q=id:=by
       have e3:datOf (F:=F) t arr q=datOf t arr id:=by rw[← h4];exact Option.some.inj e2
       unfold datOf at e3
       cases hmp:t.isMp<;>rw[hmp]at e3<;>cases arr<;>simpa using e3
      subst hq
      refine⟨[],[(q,pl)],by unfold pj;rw[hs];exact⟨pl,_,rfl,⟨pl,rfl,rfl,h6,h7⟩,rfl,rfl⟩,?_,?_,?_,λid hid=>by rw[h3]at hid;simp at hid,?_⟩
      ·intro q' hq;rw[LS]at hq;subst hq;exact⟨h5,x,_,hs⟩
      ·intro q' hq;rw[LS]at hq;subst hq;rw[h1];simp
      ·rw[h1];simp only[List.map_cons,List.map_nil,plOf,h5,Option.getD_some,plBlks,List.append_nil];exact .refl _
      ·intro id' hid';rw[h1]at hid';simp only[LS,Option.some.injEq]at hid';subst hid';exact⟨_,h8,eY⟩
   ·cases h
 ·rename_i hs;split at h
  ·cases h
  ·rename_i d hd;obtain⟨bxs,h1,h2,h3,h4,h5⟩:=u4 hΓ hm (λ_ _ h=>h) h hi (hv x d hd)
   refine⟨p.os.map (plOf g),[],by unfold pj;rw[hs];exact⟨rfl,bxs,h1⟩,λq hq=>by simp at hq,λq hq=>by simp at hq,by simp[plBlks],h3,h4⟩
theorem Hl{α : Type}{a b c d:List α}{x y:List α}(h1:x.Perm (a++b))(h2:y.Perm (c++d)):(x++y).Perm ((a++c)++(b++d)):=by refine(h1.append h2).trans ?_;rw[List.append_assoc,List.append_assoc];refine List.Perm.append_left a ?_;rw[← List.append_assoc,← List.append_assoc];exact List.Perm.append_right d List.perm_append_comm
theorem Am{s0 s:TS F}(hΓ : CtxOk P Γ)(hm:MemOk own g w (look s.M)){val:Nat→Value}(hv:∀x d,look s.E x=some d→RepD P g w d (val x)):∀{ks:Ks}{p:Pk (TLS F ks)},packS Γ s0 s ks=some p→∀{imm:Nat→Prop},Frz g p.fz imm→
  ∃pls sb,HeldS P w imm val s0 ks p.x pls sb∧SbOk g s0 sb∧(∀q∈sb,some q.1∈p.os)∧(plBlks (p.os.map (plOf g))).Perm (plBlks (sb.map (·.2))++plBlks pls)∧Fzl (look s.M) p.fz∧(∀id,some id∈p.os→∃B,look s.M id=some B∧B.owned=true)
 | [],p,h,imm,hi=>by
  simp only[packS,Option.some.injEq]at h;subst h
  exact⟨[],[],⟨rfl,rfl⟩,λq hq=>by simp at hq,by simp,by simp[plBlks],λid hid=>by simp at hid,by simp⟩
 | [k],p,h,imm,hi=>yY hΓ hm hv h hi
 | k::l::r,p,h,imm,hi=>by
  simp only[packS]at h;split at h
  ·cases h
  ·rename_i p1 hp1;split at h
   ·cases h
   ·rename_i p2 hp2;cases h
    obtain⟨l1,b1,h1,h2,h3,h4,h5,h6⟩:=yY hΓ hm hv hp1 (hi.sub (λid hid=>by simp[hid]))
    obtain⟨l2,b2,k1,k2,k3,k4,k5,k6⟩:=Am hΓ hm hv hp2 (hi.sub (λid hid=>by simp[hid]))
    refine⟨l1++l2,b1++b2,⟨l1,l2,b1,b2,rfl,rfl,h1,k1⟩,?_,?_,?_,h5.append k5,?_⟩
    ·intro q hq;rcases List.mem_append.1 hq with hq | hq
     ·exact h2 q hq
     ·exact k2 q hq
    ·intro q hq;rcases List.mem_append.1 hq with hq | hq
     ·exact List.mem_append_left _ (h3 q hq)
     ·exact List.mem_append_right _ (k3 q hq)
    ·show(plBlks ((p1.os++p2.os).map (plOf g))).Perm _;rw[List.map_append,aw,aw,List.map_append,aw];exact Hl h4 k4
    ·intro id hid;rcases List.mem_append.1 hid with hid | hid
     ·exact h6 id hid
     ·exact k6 id hid
theorem C2{s0:TS F}{x:Nat}{k:Kd}{y:k.El F}{v:Value}{pls:List Pl}{sb:List (Nat×Pl)}{c:Nat}(h:pj P w g.imm (dI k (look s0.E x)) k y v pls sb)(hn:NmAt g c pls)(hsb:∀q∈sb,g.ids q.1=some q.2) :
  RepD P g w (unpS1 s0.E x k y c).1 v∧Back g w c pls.length (sb.map (·.1)) (unpS1 s0.E x k y c).2.1∧(unpS1 s0.E x k y c).2.2=c+pls.length:=by
 unfold unpS1;unfold pj at h
 cases hs:dI k (look s0.E x)with
 | none=>rw[hs]at h;dsimp only at h ⊢;obtain⟨rfl,bxs,h⟩:=h;obtain⟨h1,h2,h3⟩:=ce (c:=c) h hn;exact⟨h1,h2.back,h3⟩
 | some id=>
  rw[hs]at h;dsimp only at h ⊢;rcases d8 hs with⟨t,ow,rfl,_⟩ | ⟨t,arr,rfl,_⟩
  ·obtain⟨bx,v',rfl,⟨bx',rest,e1,e2,hv',hB⟩,_,has⟩:=h;cases e1;cases e2
   have hid:=hsb (id,some (pt3 bx')) (by simp)
   obtain⟨k1,k2⟩:=zx (c:=c) hB hid hn;exact⟨IC hv' has hid,k1,k2⟩
  ·obtain⟨bx,v',rfl,⟨pl,e1,e2,h1,h2⟩,_,has⟩:=h;cases e1;cases e2;cases has
   have hid:g.ids id=some bx:=hsb (id,bx) (by simp)
   refine⟨CT h1 hid h2,?_,rfl⟩;intro p hp;simp only[unpB,LS]at hp;subst hp
   exact⟨eY,rr h1 hid,.inr (by simp)⟩
theorem EK{s0:TS F}{val:Nat→Value}:∀{ks:Ks}{x:TLS F ks}{pls:List Pl}{sb:List (Nat×Pl)} {c:Nat},HeldS P w g.imm val s0 ks x pls sb→NmAt g c pls→(∀q∈sb,g.ids q.1=some q.2)→
  (∀y d,look (unpS s0.E ks x c).1 y=some d→RepD P g w d (val y))∧Back g w c pls.length (sb.map (·.1)) (unpS s0.E ks x c).2.1∧(unpS s0.E ks x c).2.2=c+pls.length∧(∀y,y∉keysOf ks→look (unpS s0.E ks x c).1 y=none)
 | [],x,pls,sb,c,h,hn,hsb=>by
  obtain⟨rfl,rfl⟩:=h
  exact⟨λy d h=>by simp[unpS,look]at h,λp hp=>by simp[unpS]at hp,rfl,λ_ _=>rfl⟩
 | [k],x,pls,sb,c,h,hn,hsb=>by
  obtain⟨h1,h2,h3⟩:=C2 (c:=c) h hn hsb;simp only[unpS];refine⟨?_,h2,h3,?_⟩
  ·intro y d hy;rw[ar]at hy;split at hy
   ·rename_i hb;have:=Nat.eq_of_beq_eq_true hb;subst this;cases hy;exact h1
   ·simp[look]at hy
  ·intro y hy;rw[ar,am]
   ·rfl
   ·rintro rfl;simp[keysOf]at hy
 | k::l::r,x,pls,sb,c,h,hn,hsb=>by
  obtain⟨p1,p2,b1,b2,rfl,rfl,h,h'⟩:=h
  obtain⟨h1,h2,h3⟩:=C2 (c:=c) h hn.left (λq hq=>hsb q (by simp[hq]))
  obtain⟨k1,k2,k3,k4⟩:=EK (c:=c+p1.length) h' hn.right (λq hq=>hsb q (by simp[hq]))
  simp only[unpS];rw[h3]
  refine⟨?_,by rw[LR,List.map_append];exact h2.append k2,by rw[k3,LR];omega,?_⟩
  ·intro y d hy;rw[ar]at hy;split at hy
   ·rename_i hb;have:=Nat.eq_of_beq_eq_true hb;subst this;cases hy;exact h1
   ·exact k1 y d hy
  ·intro y hy
   rw[ar,am (λe=>hy (by simp[keysOf,e]))]
   exact k4 y (λh=>hy (by simp only[keysOf,List.map_cons,List.mem_cons]at h ⊢;exact .inr h))
theorem pw{c0:Nat}{kill l:List Nat}(h:idsOk c0 kill l=true){id:Nat}(hi:id∈l):c0≤id∨id∈kill:=by have:=List.all_eq_true.1 h id hi;simp only[Bool.or_eq_true]at this;exact this.imp (λh=>Nat.le_of_ble_eq_true h) aF.1
def G.cut(g:G)(c0:Nat)(pls:List Pl)(I:Nat→Prop):G:=⟨λx=>if x<c0 then g.ids x else if x<c0+pls.length then pls[x - c0]? else none,I,g.len⟩
theorem A3{c0:Nat}{pls:List Pl}{I:Nat→Prop}{x:Nat}(h:x<c0):(g.cut c0 pls I).ids x=g.ids x:=by simp only[G.cut];rw[if_pos h]
theorem Kk{c0:Nat}{pls:List Pl}{I:Nat→Prop}:NmAt (g.cut c0 pls I) c0 pls:=by
 intro j pl hj;have hlt:=(LQ.1 hj).1;simp only[G.cut]
 rw[if_neg (by omega),if_pos (by omega),Nat.add_sub_cancel_left]
 exact hj
theorem C1{s:TS F}{dr kill:List Nat}{ks:Ks}{x:TLS F ks}(hk:∀y∈keysOf ks,y∈dr)(hks:∀y,y∉keysOf ks→look (unpS s.E ks x s.c).1 y=none)(hb:∀q∈(unpS s.E ks x s.c).2.1,s.c≤q.1∨q.1∈kill)(hc:s.c≤(unpS s.E ks x s.c).2.2):Fr nv s (merge nv dr kill s ks x):=by
 refine⟨?_,?_,hc,λy hy=>List.mem_append_right _ hy,λy hy=>List.mem_append_right _ hy⟩
 ·intro y hy hn;have hnd:y∉dr:=λh=>hn (List.mem_append_left _ h);show look ((unpS s.E ks x s.c).1++s.E.filter λp=>Nat.blt p.1 nv&&!(memN p.1 dr)) y=_;rw[aS,hks y (λh=>hnd (hk y h)),Option.none_or,aD (λy=>Nat.blt y nv&&!(memN y dr)),if_pos];rw[Nat.blt_eq.mpr hy]
  cases hm:memN y dr with
  | true=>exact absurd (aF.1 hm) hnd
  | false=>rfl
 ·intro id hid hn;have hnd:id∉kill:=λh=>hn (List.mem_append_left _ h);show look ((unpS s.E ks x s.c).2.1++s.M.filter λp=>!(memN p.1 kill)) id=_
  have hnone:∀{l:List (Nat×Blk F)},(∀q∈l,s.c≤q.1∨q.1∈kill)→look l id=none:=by
   intro l
   induction l with
   | nil=>intro _;rfl
   | cons q l ih=>
    intro h;obtain⟨y,C⟩:=q
    have hne:y≠id:=by
     rintro rfl
     rcases h (y,C) (by simp)with h | h
     ·simp only at h;omega
     ·exact hnd h
    rw[ar,am hne]
    exact ih (λq hq=>h q (by simp[hq]))
  rw[aS,hnone hb,Option.none_or,aD (λy=>!(memN y kill)),if_pos]
  cases hm:memN id kill with
  | true=>exact absurd (aF.1 hm) hnd
  | false=>rfl
theorem Ae(hΓ : CtxOk P Γ){s z:TS F}{gs:G}{as:Act}{ws W1:World}(hs:Good P own W1 n s.st gs as ws)(hz:Good P own W0 n z.st g a w){dr kill:List Nat}
  (he:∀x,x<nv→x∉dr→look z.E x=look s.E x) (hm:∀id,id<s.c→id∉kill→look z.M id=look s.M id) {ks:Ks} {p:Pk (TLS F ks)} (hp:packS Γ s z ks=some p)
  (hnd:cA (somes p.os)=true) (hdj:disjN (somes p.os) p.fz=true) (ho:idsOk s.c kill (somes p.os)=true) (hf:idsOk s.c kill p.fz=true) :
  (∃g',Good P own W0 n (merge nv dr kill s ks p.x).st g' a w)∧((∀y∈keysOf ks,y∈dr)→Fr nv s (merge nv dr kill s ks p.x)∧Fr nv (clean s) (merge nv dr kill (clean s) ks p.x))∧
  (∀q∈(unpS s.E ks p.x s.c).2.1,s.c≤q.1∨q.1∈kill)∧(∀y,y∉keysOf ks→look (unpS s.E ks p.x s.c).1 y=none)∧s.c≤(unpS s.E ks p.x s.c).2.2:=by
 have hfz:Frz g p.fz (g.fzs p.fz).imm:=⟨λ_ h=>.inl h,λid hid b hb=>.inr ⟨id,hid,hb⟩⟩;obtain⟨pls,sb,h1,hsb,hsbo,hperm,h2,h3⟩:=Am (s0:=s) (val:=λx=>a.tmps.getD x undef) hΓ hz.mem hz.env hp hfz;have hfr:=freeze hz.mem (λ_ _ h=>h) h2
 have hnames:∀{id:Nat},gs.ids id≠none→id<s.c:=by
  intro id hid;apply Nat.lt_of_not_le;intro hle
  exact hid (hs.dom id (by simp only[TS.st,ba,decide_eq_false_iff_not];omega))
 let g':G:=g.cut s.c pls (g.fzs p.fz).imm
 have hids:∀id,gs.ids id≠none→g'.ids id=g.ids id:=λid hid=>A3 (hnames hid);have himm:∀b,g.imm b→g'.imm b:=λb hb=>.inl hb
 have hsbn:∀q∈sb,q.1<s.c:=by
  intro q hq;obtain⟨_,x,k,hx⟩:=hsb q hq;rcases d8 hx with⟨t,ow,_,hx⟩ | ⟨t,arr,_,hx⟩
  ·obtain⟨_,_,⟨b,c,hi⟩,_⟩:=EJ (hs.env x _ hx)
   exact hnames (by rw[hi];simp)
  ·obtain⟨⟨pl,hi⟩,_⟩:=Cd (t:=t) (hs.env x _ hx)
   exact hnames (by rw[hi];simp)
 have hsb':∀q∈sb,g'.ids q.1=some q.2:=λq hq=>(A3 (hsbn q hq)).trans (hsb q hq).1;obtain⟨k1,k2,k3,k4⟩:=EK (g:=g') (c:=s.c) h1 Kk hsb'
 have hpl:∀{b:Nat},b∈plBlks (sb.map (·.2))++plBlks pls→∃id B,id∈somes p.os∧look z.M id=some B∧B.owned=true∧g.blk id b:=by intro b hb;obtain⟨id,q1,q2⟩:=bk.1 (hperm.mem_iff.2 hb);obtain⟨B,q3,q4⟩:=h3 id q1;exact⟨id,B,db.2 q1,q3,q4,q2⟩
 have hnod:(plBlks (sb.map (·.2))++plBlks pls).Nodup:=hperm.nodup_iff.1 (fw hz.mem (eb hnd) h3);have hpln:(plBlks pls).Nodup:=(List.nodup_append.1 hnod).2.1
 have hplz:∀{b:Nat},b∈plBlks (sb.map (·.2))++plBlks pls→own.o b∧¬ (g.fzs p.fz).imm b:=by
  intro b hb;obtain⟨id,B,q1,q2,q3,q4⟩:=hpl hb;refine⟨(hz.mem.own id B b q2 q3 q4).1,?_⟩;have hno:id∉p.fz:=lu hdj id q1
  exact(hfr.own id B b (by rw[gc,if_neg hno];exact q2) q3 q4).2
 have hmem:∀{id:Nat}{B:Blk F},look ((unpS s.E ks p.x s.c).2.1++s.M.filter λq=>!(memN q.1 kill)) id=some B→
   (BlkOk g' w id B∧s.c≤id∧∀b,g'.blk id b→∃b0 q,pls[id - s.c]? = some (some (b0,q))∧b∈b0::nbl q.2.2)∨
   (BlkOk g' w id B∧∃bx,(id,bx)∈sb∧∀b,g'.blk id b→∃b0 q,bx=some (b0,q)∧b∈b0::nbl q.2.2)∨
   (id<s.c∧id∉kill∧look z.M id=some B∧BlkOk g' w id B∧∀b,g'.blk id b→g.blk id b):=by
  intro id B hB;rw[aS]at hB
  cases hl:look (unpS s.E ks p.x s.c).2.1 id with
  | some B'=>
   rw[hl]at hB;cases hB
   have hin:∀{l:List (Nat×Blk F)} {B:Blk F},look l id=some B→(id,B)∈l:=by
    intro l
    induction l with
    | nil=>intro B h;simp[look]at h
    | cons q l ih=>
     intro B h;obtain⟨y,C⟩:=q;rw[ar]at h;split at h
     ·rename_i hb;have:=Nat.eq_of_beq_eq_true hb;subst this;cases h;simp
     ·exact List.mem_cons_of_mem _ (ih h)
   obtain⟨q3,q4,⟨j,q1,q2⟩ | q1⟩:=k2 _ (hin hl)
   ·simp only at q1 q4
    refine .inl ⟨q4,by omega,?_⟩
    rintro b ⟨b0,q,hq,hbb⟩;refine⟨b0,q,?_,hbb⟩
    have:¬ id<s.c:=by omega
    simp only[g',G.cut]at hq
    rw[if_neg this,if_pos (by omega)]at hq
    exact hq
   ·simp only at q1 q4;obtain⟨⟨i,bx⟩,r1,r2⟩:=List.mem_map.1 q1;simp only at r2;subst r2;refine .inr (.inl ⟨q4,bx,r1,?_⟩);rintro b ⟨b0,q,hq,hbb⟩;rw[hsb' _ r1]at hq;cases hq;exact⟨_,_,rfl,hbb⟩
  | none=>
   rw[hl,Option.none_or]at hB;rw[aD (λy=>!(memN y kill))]at hB;split at hB
   ·rename_i hk
    have hk':id∉kill:=λh=>by rw[aF.2 h]at hk;simp at hk
    have hok:=hs.mem.ok id B hB;have hlt:id<s.c:=hnames hok.named
    have hzB:look z.M id=some B:=by rw[hm id hlt hk'];exact hB
    refine .inr (.inr ⟨hlt,hk',hzB,(hz.mem.ok id B hzB).ren hids himm (λ_ h=>h) hok.named hok.inn hok.innA,?_⟩);rintro b ⟨b0,q,hq,hbb⟩
    exact⟨b0,q,by rw[← A3 (g:=g) (pls:=pls) (I:=(g.fzs p.fz).imm) hlt];exact hq,hbb⟩
   ·cases hB
 have hkept:∀{id:Nat}{B:Blk F}{b:Nat},id<s.c→id∉kill→look z.M id=some B→B.owned=true→g.blk id b→b∉plBlks (sb.map (·.2))++plBlks pls∧¬ (g.fzs p.fz).imm b:=by
  intro id B b q1 q2 q3 q4 q5;refine⟨λhb=>?_,?_⟩
  ·obtain⟨id',B',r1,r2,r3,r4⟩:=hpl hb;have:=hz.mem.dis id id' B B' b q3 r2 q4 r3 q5 r4;subst this;rcases pw ho r1 with h | h
   ·omega
   ·exact q2 h
  ·have hno:id∉p.fz:=λh=>by
    rcases pw hf h with h | h
    ·omega
    ·exact q2 h
   exact(hfr.own id B b (by rw[gc,if_neg hno];exact q3) q4 q5).2
 have inS:∀{id b b0:Nat}{q:Nat×Nat×NS},(id,some (b0,q))∈sb→b∈b0::nbl q.2.2→b∈plBlks (sb.map (·.2))++plBlks pls:=λh hb=>List.mem_append_left _ (vn (List.mem_map.2 ⟨_,h,rfl⟩) hb);have inP:∀{j b b0:Nat}{q:Nat×Nat×NS},pls[j]? = some (some (b0,q))→b∈b0::nbl q.2.2→b∈plBlks (sb.map (·.2))++plBlks pls:=λh hb=>List.mem_append_right _ (bL.2 ⟨_,_,_,h,hb⟩)
 have apart:∀{id j b b1:Nat}{bx:Pl}{q:Nat×Nat×NS},(id,bx)∈sb→(∃b0 q,bx=some (b0,q)∧b∈b0::nbl q.2.2)→pls[j]? = some (some (b1,q))→b∈b1::nbl q.2.2→False:=by rintro id j b b1 bx q h ⟨b0,q',rfl,hb⟩ h' hb';exact(List.nodup_append.1 hnod).2.2 b (vn (List.mem_map.2 ⟨_,h,rfl⟩) hb) b (bL.2 ⟨_,_,_,h',hb'⟩) rfl
 have hb:∀q∈(unpS s.E ks p.x s.c).2.1,s.c≤q.1∨q.1∈kill:=λq hq=>by
  obtain⟨_,_,⟨j,q1,_⟩ | q1⟩:=k2 q hq
  ·exact .inl (by omega)
  ·obtain⟨⟨i,bx⟩,r1,r2⟩:=List.mem_map.1 q1;simp only at r2;rw[← r2];rcases pw ho (db.2 (hsbo _ r1))with h | h
   ·exact .inl h
   ·exact .inr h
 refine⟨⟨g',hz.dfr,hz.tsz,?_,⟨?_,?_,?_,hfr.imm,hfr.io,hz.mem.len⟩,?_,λb hb=>.inl (hz.ini b hb),hz.frm,λid q h=>(A3 (hnames (by rw[hs.nam id q h];simp))).trans (hz.nam id q h)⟩,λhk=>?_,hb,k4,by rw[k3];omega⟩
 ·intro x d hx;simp only[TS.st,merge]at hx;rw[aS]at hx
  cases hl:look (unpS s.E ks p.x s.c).1 x with
  | some d'=>rw[hl]at hx;cases hx;exact k1 x d hl
  | none=>
   rw[hl,Option.none_or,aD (λy=>Nat.blt y nv&&!(memN y dr))]at hx;split at hx
   ·rename_i hc;simp only[Bool.and_eq_true,Bool.not_eq_true']at hc;have hlt:x<nv:=Nat.blt_eq.mp hc.1
    have hnd:x∉dr:=λh=>by rw[aF.2 h]at hc;simp at hc
    have hzx:look z.E x=some d:=by rw[he x hlt hnd];exact hx
    exact(hz.env x d hzx).ren hids himm (λ_ h=>h) (hs.env x d hx).inn
   ·cases hx
 ·intro id B hB
  rcases hmem hB with⟨q,_⟩ | ⟨q,_⟩ | ⟨_,_,_,q,_⟩<;>exact q
 ·intro id id' B B' b hB hB' ob ob' hb hb';rcases hmem hB with⟨_,q1,q2⟩ | ⟨_,bx,q1,q2⟩ | ⟨q1,q2,q3,_,q4⟩
  ·obtain⟨x0,x,q3,q5⟩:=q2 b hb;rcases hmem hB' with⟨_,r1,r2⟩ | ⟨_,bx',r1,r2⟩ | ⟨r1,r2,r3,_,r4⟩
   ·obtain⟨y0,y,r3,r5⟩:=r2 b hb';have:=jC hpln q3 q5 r3 r5;omega
   ·exact(apart r1 (r2 b hb') q3 q5).elim
   ·exact absurd (inP q3 q5) (hkept r1 r2 r3 ob' (r4 b hb')).1
  ·have e1:=q2 b hb;rcases hmem hB' with⟨_,r1,r2⟩ | ⟨_,bx',r1,r2⟩ | ⟨r1,r2,r3,_,r4⟩
   ·obtain⟨y0,y,r3,r5⟩:=r2 b hb';exact(apart q1 e1 r3 r5).elim
   ·have e2:=r2 b hb';obtain⟨B1,s1,s2⟩:=h3 id (hsbo _ q1);obtain⟨B2,t1,t2⟩:=h3 id' (hsbo _ r1);obtain⟨x0,x1,rfl,x2⟩:=e1;obtain⟨y0,y1,rfl,y2⟩:=e2;exact hz.mem.dis id id' B1 B2 b s1 t1 s2 t2 ⟨x0,x1,(hsb _ q1).1,x2⟩ ⟨y0,y1,(hsb _ r1).1,y2⟩
   ·obtain⟨x0,x1,rfl,x2⟩:=e1;have:=inS q1 x2;exact absurd this (hkept r1 r2 r3 ob' (r4 b hb')).1
  ·rcases hmem hB' with⟨_,r1,r2⟩ | ⟨_,bx',r1,r2⟩ | ⟨r1,r2,r3,_,r4⟩
   ·obtain⟨y0,y,r3,r5⟩:=r2 b hb';exact absurd (inP r3 r5) (hkept q1 q2 q3 ob (q4 b hb)).1
   ·obtain⟨x0,x1,rfl,x2⟩:=r2 b hb';have:=inS r1 x2;exact absurd this (hkept q1 q2 q3 ob (q4 b hb)).1
   ·exact hz.mem.dis id id' B B' b q3 r3 ob ob' (q4 b hb) (r4 b hb')
 ·intro id B b hB ob hb;rcases hmem hB with⟨_,q1,q2⟩ | ⟨_,bx,q1,q2⟩ | ⟨q1,q2,q3,_,q4⟩
  ·obtain⟨x0,x,q3,q5⟩:=q2 b hb;exact hplz (inP q3 q5)
  ·obtain⟨x0,x1,rfl,x2⟩:=q2 b hb;exact hplz (inS q1 x2)
  ·exact⟨(hz.mem.own id B b q3 ob (q4 b hb)).1,(hkept q1 q2 q3 ob (q4 b hb)).2⟩
 ·intro id hid;simp only[TS.st,merge,ba,decide_eq_false_iff_not]at hid;rw[k3]at hid;simp only[g',G.cut]
  rw[if_neg (by omega),if_neg (by omega)]
 ·exact⟨C1 hk k4 hb (by rw[k3];omega),C1 (s:=clean s) hk k4 hb (by show s.c≤(unpS s.E ks p.x s.c).2.2;rw[k3];omega)⟩
end
set_option linter.unusedVariables false
set_option linter.unusedSimpArgs false
section
variable{F:Fam}{P:Program}{own:Ow}{W0:World}{n nv:Nat}
theorem wv{s z:TS F}{gs g:G}{a0 a:Act}{w0 w:World}(hs:Good P own W0 n s.st gs a0 w0)(hz:Good P own W0 n z.st g a w){id ix kk:Nat}{dr:List Nat}{B B':Blk F}{len:Nat}{nn:Int}(hid:id<s.c)
  (he:∀y,y<nv→y∉ix::dr→look z.E y=look s.E y) (hi:look z.E ix=some (.c (.im (.i .i64 nn)))) (hm:∀y,y<s.c→y≠id→look z.M y=look s.M y)
  (hB:look z.M kk=some B) (hBo:B.owned=true) (hkk:kk=id∨s.c≤kk) (hsame:SameM len (g.ids id) (g.ids kk)) (hB':∀g2:G,g2.ids s.c=g.ids kk→g2.imm=g.imm→BlkOk g2 w s.c B') (hBo':B'.owned=true) :
  ∃g2,Good P own W0 n (headM nv s id ix dr B' len nn).st g2 a w:=by
 have hnames:∀{y:Nat},gs.ids y≠none→y<s.c:=by
  intro y hy;by_cases h:y<s.c
  ·exact h
  ·exact absurd (hs.dom y (by simp only[TS.st,ba];simpa using h)) hy
 obtain⟨g2,hg2⟩:∃g2:G,g2=⟨λy=>if y=s.c then g.ids kk else if y<s.c then g.ids y else none,g.imm,g.len⟩:=⟨_,rfl⟩
 have h2c:g2.ids s.c=g.ids kk:=by rw[hg2];simp
 have h2l:∀y,y<s.c→g2.ids y=g.ids y:=λy hy=>by rw[hg2];simp only;rw[if_neg (by omega),if_pos hy]
 have h2g:∀y,s.c<y→g2.ids y=none:=λy hy=>by rw[hg2];simp only;rw[if_neg (by omega),if_neg (by omega)]
 have h2i:g2.imm=g.imm:=by rw[hg2]
 have h2len:g2.len=g.len:=by rw[hg2]
 have hids:∀y,gs.ids y≠none→g2.ids y=g.ids y:=λy hy=>h2l y (hnames hy)
 have himm:∀b,g.imm b→g2.imm b:=λb h=>by rw[h2i];exact h
 have hlen:∀b,g.len b→g2.len b:=λb h=>by rw[h2len];exact h
 have hcase:∀y B0,look (headM nv s id ix dr B' len nn).M y=some B0→(y=id∧B0 = .als s.c len)∨(y=s.c∧B0=B')∨(y<s.c∧y≠id∧look s.M y=some B0∧look z.M y=some B0):=by
  intro y B0 h;simp only[headM]at h;rw[ar]at h;by_cases h1:id=y
  ·subst h1;rw[if_pos (Nat.beq_refl _)]at h;cases h;exact .inl ⟨rfl,rfl⟩
  ·have hb1:Nat.beq id y=false:=am h1
   rw[if_neg (by rw[hb1];simp),ar]at h
   by_cases h2:s.c=y
   ·subst h2;rw[if_pos (Nat.beq_refl _)]at h;cases h;exact .inr (.inl ⟨rfl,rfl⟩)
   ·have hb2:Nat.beq s.c y=false:=am h2
    rw[if_neg (by rw[hb2];simp),aD (λy=>!(Nat.beq id y))]at h
    rw[if_pos (by rw[hb1];rfl)]at h
    have hlt:y<s.c:=hnames (hs.mem.ok y B0 h).named
    exact .inr (.inr ⟨hlt,λe=>h1 e.symm,h,by rw[hm y hlt (λe=>h1 e.symm)];exact h⟩)
 have hback:∀y B0,look (headM nv s id ix dr B' len nn).M y=some B0→B0.owned=true→∀b,g2.blk y b→∃y' B1,look z.M y'=some B1∧B1.owned=true∧g.blk y' b∧((y=s.c∧y'=kk)∨(y<s.c∧y≠id∧y'=y)):=by
  intro y B0 h ho b hb;rcases hcase y B0 h with⟨_,rfl⟩ | ⟨rfl,rfl⟩ | ⟨h1,h2,h3,h4⟩
  ·cases ho
  ·obtain⟨b0,c,k1,k2⟩:=hb;rw[h2c]at k1;exact⟨kk,B,hB,hBo,⟨b0,c,k1,k2⟩,.inl ⟨rfl,rfl⟩⟩
  ·obtain⟨b0,c,k1,k2⟩:=hb;rw[h2l y h1]at k1;exact⟨y,B0,h4,ho,⟨b0,c,k1,k2⟩,.inr ⟨h1,h2,rfl⟩⟩
 refine⟨g2,hz.dfr,hz.tsz,?_,⟨?_,?_,?_,λb hb=>hz.mem.imm b (by rw[← h2i];exact hb),λb hb=>hz.mem.io b (by rw[← h2i];exact hb),λb hb=>hz.mem.len b (by rw[← h2len];exact hb)⟩,?_,λb hb=>himm b (hz.ini b hb),hz.frm,?_⟩
 ·intro x d hx;have hx:look ((ix,.c (.im (.i .i64 nn)))::s.E.filter (λp=>Nat.blt p.1 nv&&!(memN p.1 (ix::dr)))) x=some d:=hx;rw[ar]at hx;by_cases h1:ix=x
  ·subst h1;rw[if_pos (Nat.beq_refl _)]at hx;cases hx;have:=hz.env ix _ hi
   cases this with
   | c h=>cases h with
    | im h=>exact .c (.im (by rw[h2i];exact h))
  ·have hb1:Nat.beq ix x=false:=am h1
   rw[if_neg (by rw[hb1];simp),aD (λy=>Nat.blt y nv&&!(memN y (ix::dr)))]at hx
   split at hx
   ·rename_i hc;simp only[Bool.and_eq_true,ba,decide_eq_true_eq,Bool.not_eq_true']at hc
    have hn:x∉ix::dr:=λh=>by rw[aF.2 h]at hc;cases hc.2
    have hzx:look z.E x=some d:=by rw[he x hc.1 hn];exact hx
    exact(hz.env x d hzx).ren hids himm hlen (hs.env x d hx).inn
   ·cases hx
 ·intro y B0 h;rcases hcase y B0 h with⟨rfl,rfl⟩ | ⟨rfl,rfl⟩ | ⟨h1,h2,h3,h4⟩
  ·show SameM len (g2.ids y) (g2.ids s.c);rw[h2l y hid,h2c];exact hsame
  ·exact hB' g2 h2c h2i
  ·have hok:=hs.mem.ok y B0 h3;exact(hz.mem.ok y B0 h4).ren hids himm hlen hok.named hok.inn hok.innA
 ·intro y y' B0 B1 b h h' ho ho' hb hb';obtain⟨q,C,k1,k2,k3,k4⟩:=hback y B0 h ho b hb;obtain⟨q',C',l1,l2,l3,l4⟩:=hback y' B1 h' ho' b hb';have:=hz.mem.dis q q' C C' b k1 l1 k2 l2 k3 l3;omega
 ·intro y B0 b h ho hb;obtain⟨q,C,k1,k2,k3,k4⟩:=hback y B0 h ho b hb;have:=hz.mem.own q C b k1 k2 k3
  exact⟨this.1,by rw[h2i];exact this.2⟩
 ·intro y hy;have hy:Nat.blt y (s.c+1)=false:=hy;rw[ba]at hy
  have hy':¬ y<s.c+1:=by simpa using hy
  exact h2g y (by omega)
 ·intro y p hp;have h1:=hs.nam y p hp
  rw[h2l y (hnames (by rw[h1];simp))]
  exact hz.nam y p hp
theorem SameM.len{w:World}{t:Ty}{l:List (ET F t)}{C:Nat→ND F→Value→Option (Nat×Nat×Nat)→Prop}{x:Nat}{p q:Option Pl}(h:SameM x p q)(hq:∃pl,q=some pl∧OwnG w t l C pl):SameM l.length p q:=by
 obtain⟨pl,h1,h2⟩:=hq;rcases h with⟨b,c,n,n',k1,k2,k3,k4⟩ | ⟨k1,k2,k3⟩
 ·rw[k2]at h1;cases h1;exact .inl ⟨b,c,n,n',k1,k2,k3,k3.symm.trans h2.1⟩
 ·rw[k2]at h1;cases h1;have:l = []:=h2;subst this;exact .inr ⟨k1,k2,rfl⟩
theorem H4{m:Nat→Option (Blk F)}{g:G}{w:World}(hm:MemOk own g w m){id c:Nat}{t:Ty}{l:List (ET F t)}(hB:m id=some (.row t l))(hf:g.ids c=none) :
  ∃g',MemOk own g' w (updM m [(id,none),(c,some (.mrow t l 0)),(id,some (.als c l.length))])∧Stp m g w g' w∧∀y,y≠c→g'.ids y=g.ids y:=by
 have hnb:∀k:Nat,nbl (List.replicate k (none:Option (Nat×Nat×Nat))) = []:=by
  intro k
  induction k with
  | zero=>rfl
  | succ k ih=>rw[List.replicate_succ];exact ih
 obtain⟨pl,pl',hid,hO,hbl,hSm⟩:∃pl pl',g.ids id=some pl∧OwnG w t l (CMix w g.imm (szT F t) 0) pl'∧(∀b0 c',pl'=some (b0,c')→∀b∈b0::nbl c'.2.2,∃c2,pl=some (b,c2))∧SameM l.length (some pl) (some pl'):=by
  rcases hm.ok id _ hB with⟨k1,k2⟩ | ⟨b,cap,cur,e,k1,k2,k3,k4,k5,k6⟩
  ·exact⟨none,none,k1,k2,λ_ _ h=>by simp at h,.inr ⟨rfl,rfl,by rw[k2];rfl⟩⟩
  ·refine⟨_,some (b,cap,l.length,List.replicate (cells F t l).length none),k1,⟨rfl,k3,k4,by simp,by rw[hnb];simp,cur,e,k2,k5,λk d y p h1 h2 h3=>⟨λh=>by omega,λ_=>⟨?_,k6 k d y h1 h2⟩⟩⟩,?_,.inl ⟨b,cap,_,_,rfl,rfl,rfl,rfl⟩⟩
   ·dsimp only at h3;rw[List.getElem?_replicate]at h3;split at h3
    ·cases h3;rfl
    ·cases h3
   ·rintro b0 c' h b' hb';cases h;rw[hnb]at hb';rw[LS]at hb';subst hb';exact⟨_,rfl⟩
 obtain⟨k1,k2⟩:=gz (rm:=[id]) (id:=c) (pl:=pl') (B:=.mrow t l 0) (w':=w) hm hf
  (λb0 c' e b hb=>by
   obtain⟨c2,hc2⟩:=hbl b0 c' e b hb
   exact .inr ⟨id,by simp,_,hB,rfl,b,c2,by rw[hid,hc2],List.mem_cons_self⟩) rfl rfl rfl (Nat.le_refl _) (Nat.le_refl _) (λ_ _ _=>rfl) (λg' hle hi=>⟨pl',hi,hO.chg (λ_ _ _ _ _=>rfl) λk d y p hp hc=>hc.chg hle.imm hle.heap hp⟩)
 refine⟨g.name c pl',?_,k2,λy hy=>bw _ _ _ hy⟩
 have h2:=k1.als (id:=id) (k:=c) (n:=l.length) (by rw[k2.le.ids _ _ hid,aT];exact hSm)
 have e:([(id,none),(c,some (.mrow t l 0)),(id,some (.als c l.length))]:List (Nat×Option (Blk F)))=([id].map (λr=>(r,none))++[(c,some (.mrow t l 0))])++[(id,some (.als c l.length))]:=rfl;rw[e,dw];exact h2
theorem G6{g:G}{w:World}{id:Nat}{t:Ty}{l:List (ET F t)}{j:Nat}(h:BlkOk g w id (.mrow t l j))(hj:l.length≤j):BlkOk g w id (.nrow t l):=by
 obtain⟨pl,h1,h2⟩:=h;refine⟨pl,h1,?_⟩
 cases pl with
 | none=>exact h2
 | some q=>obtain⟨b,cap,n⟩:=q;obtain⟨q1,q2,q3,q4,q5,cur,e,q6,q7,q8⟩:=h2;refine⟨q1,q2,q3,q4,q5,cur,e,q6,q7,λk d x p p1 p2 p3=>(q8 k d x p p1 p2 p3).1 ?_⟩;have hk:k<(cells F t l).length:=(LQ.1 p1).1;rw[dL]at hk;have:l.length*szT F t≤j*szT F t:=Nat.mul_le_mul_right _ hj;omega
end
set_option linter.unusedVariables false
set_option linter.unusedSimpArgs false
def exC:Nat→Exit
 | 0=>.normal
 | 1=>.ret
 | i+2=>.exit i
section
variable{F:Fam}{P:Program}{T:TypeId→Option (TI F)}{Γ : Ctx F}{nv n:Nat}{own:Ow}{W0:World}
def Aft(P:Program)(own:Ow)(W0:World)(n nv:Nat)(s:TS F){R:Type}(K:Nat→TS F→Option R)(r:R):Exit→Act→World→Prop:=
 λe a w=>∃k s' g',exC k=e∧K k s'=some r∧Fr nv s s'∧Good P own W0 n s'.st g' a w
theorem Aft.back{s s1:TS F}(h:Fr nv s s1){R:Type}{K:Nat→TS F→Option R}{r:R}{e:Exit}{a:Act}{w:World}(k:Aft P own W0 n nv s1 K r e a w):Aft P own W0 n nv s K r e a w:=by obtain⟨i,s',g',h1,h2,h3,h4⟩:=k;exact⟨i,s',g',h1,h2,h.trans h3,h4⟩
def aP(P:Program)(own:Ow)(W0:World)(n nv:Nat)(c:Code)(run:TS F→{R:Type}→(Nat→TS F→Option R)→Option R):Prop:=
 ∀(s:TS F){R:Type}(K:Nat→TS F→Option R)(r:R),run s K=some r→∀(g:G)(a:Act)(w:World),Good P own W0 n s.st g a w→c.wp P (Aft P own W0 n nv s K r) a w
theorem F2{x y:Code}{f k:TS F→{R:Type}→(Nat→TS F→Option R)→Option R}(hx:aP P own W0 n nv x f)(hy:aP P own W0 n nv y k) :
  aP P own W0 n nv (x.seq y) (λs R K=>f s λe s'=>match e with | 0=>k s' K | e=>K e s'):=by
 intro s R K r h g a w hg;refine wp_seq (wp_mono (hx s _ r h g a w hg) ?_);rintro e a' w' ⟨i,s',g',rfl,h2,h3,h4⟩
 match i,h2 with
 | 0,h2=>exact wp_mono (hy s' K r h2 g' a' w' h4) (λe a w hq=>hq.back h3)
 | 1,h2=>exact⟨1,s',g',rfl,h2,h3,h4⟩
 | i+2,h2=>exact⟨i+2,s',g',rfl,h2,h3,h4⟩
theorem EU{t:Nat}{x y:Code}{f k:TS F→{R:Type}→(Nat→TS F→Option R)→Option R}(hx:aP P own W0 n nv x f)(hy:aP P own W0 n nv y k) :
  aP P own W0 n nv (.cond (.tmp t) x y) (λs R K=>match look s.E t with
  | some (.c (.im (.b b)))=>cond b (f s K) (k s K)
  | _=>none):=by
 intro s R K r h g a w hg;dsimp only at h;split at h
 ·rename_i b hb;refine wp_cond_split (qF (hg.env t _ hb)) (λe=>?_) (λe=>?_)
  ·subst e;exact hx s K r h g a w hg
  ·subst e;exact hy s K r h g a w hg
 ·cases h
theorem DO{b:Bool}{x y:Code}{f k:TS F→{R:Type}→(Nat→TS F→Option R)→Option R}(hx:aP P own W0 n nv x f)(hy:aP P own W0 n nv y k) :
  aP P own W0 n nv (.cond (.const (.bool b)) x y) (λs R K=>cond b (f s K) (k s K)):=by
 intro s R K r h g a w hg;refine wp_cond_split (t:=b) rfl (λe=>?_) (λe=>?_)
 ·subst e;exact hx s K r h g a w hg
 ·subst e;exact hy s K r h g a w hg
theorem CS{i:Nat}{x:Code}{f:TS F→{R:Type}→(Nat→TS F→Option R)→Option R}(hx:aP P own W0 n nv x f) :
  aP P own W0 n nv (.block i x) (λs R K=>f s λe s'=>if Nat.beq e (i+2)then K 0 s' else K e s'):=by
 intro s R K r h g a w hg;refine wp_block (wp_mono (hx s _ r h g a w hg) ?_);rintro e a' w' ⟨j,s',g',rfl,h2,h3,h4⟩
 match j,h2 with
 | 0,h2=>exact⟨0,s',g',rfl,h2,h3,h4⟩
 | 1,h2=>exact⟨1,s',g',rfl,h2,h3,h4⟩
 | j+2,h2=>
  simp only at h2;show Exit.inBlock i _ (.exit j) a' w';simp only[Exit.inBlock];by_cases hij:j=i
  ·subst hij;rw[aV,if_pos rfl]at h2;rw[if_pos rfl];exact⟨0,s',g',rfl,h2,h3,h4⟩
  ·rw[am (by omega)]at h2
   rw[if_neg hij];exact⟨j+2,s',g',rfl,h2,h3,h4⟩
theorem Dp{x:Code}{f:TS F→{R:Type}→(Nat→TS F→Option R)→Option R}(hx:aP P own W0 n nv x f) :
  aP P own W0 n nv (.scope x) (λs R K=>f s K):=by
 intro s R K r h g a w hg;refine wp_scope_straight (wp_mono (hx s _ r h g a w hg) ?_);rintro e a' w' ⟨j,s',g',rfl,h2,h3,h4⟩
 match j,h2 with
 | 0,h2=>exact⟨0,s',g',rfl,h2,h3,h4⟩
 | 1,h2=>exact⟨1,s',g',rfl,h2,h3,h4⟩
 | j+2,h2=>exact⟨j+2,s',g',rfl,h2,h3,h4⟩
theorem Ca(hT:TblOk P T)(hΓ : CtxOk P Γ)(hmix:P.follows .mixedOrders=true){id:Nat}{ops:Array Oper}{draw:Bool}{kp:List Nat} :
  aP P own W0 n nv (.region id ops draw) (λs R K=>tReg T Γ nv n kp ops.toList draw s (K 0)):=by
 intro s R K r h g a w hg;refine KR hT hΓ hmix h hg ?_;intro s' g' a' w' h1 h2 h3;exact⟨0,s',g',rfl,h1,h2,h3⟩
theorem Gm{F:Fam}(Γ : Ctx F)(f:Nat):look (mark Γ) f=look Γ f:=by
 cases Γ with
 | nil=>rfl
 | cons a l=>
  simp only[mark,look]
  split<;>first | rfl | simp_all
theorem wT(hΓ : CtxOk P Γ){b:Bool}:CtxOk P (cond b (mark Γ) Γ):=by
 cases b with
 | false=>exact hΓ
 | true=>exactλf sp h=>hΓ f sp (by rw[← Gm];exact h)
theorem Ee{s:TS F}{g:G}{a:Act}{w:World}(hg:Good P own W0 n s.st g a w)(id:Nat):(∃g',Good P own W0 n (AE id s).st g' a w)∧Fr nv s (AE id s):=by
 unfold AE;split
 ·rename_i t l hB
  obtain⟨g',k1,k2,k3⟩:=Gj (c:=s.c) hg.mem hB (hg.dom s.c (by simp only[TS.st,ba];simp))
  refine⟨⟨g',hg.dfr,hg.tsz,λx d h=>(hg.env x d h).le k2.le,?_,λy hy=>?_,λb hb=>k2.le.imm b (hg.ini b hb),hg.frm.stp hg.mem k2,λy p hp=>k2.le.ids _ _ (hg.nam y p hp)⟩,?_⟩
  ·have e:(⟨s.E,setM s.M [(id,none),(s.c,some (.nrow t l)),(id,some (.als s.c l.length))],s.c+1,s.dE,id::s.c::s.dM⟩:TS F).st.m=updM s.st.m [(id,none),(s.c,some (.nrow t l)),(id,some (.als s.c l.length))]:=by
    funext x
    simp only[TS.st];rw[dZ]
   rw[e];exact k1
  ·have hy:Nat.blt y (s.c+1)=false:=hy;rw[ba]at hy
   have hy':¬ y<s.c+1:=by simpa using hy
   rw[k3 y (by omega)]
   exact hg.dom y (by simp only[TS.st,ba];simp;omega)
  ·refine⟨λ_ _ _=>rfl,λy hy hn=>?_,Nat.le_succ _,λ_ h=>h,λx hx=>by simp[hx]⟩
   show look (setM s.M _) y=_;rw[dZ,cx];simp only[List.mem_cons,not_or]at hn;simp only[List.map_cons,List.map_nil,List.mem_cons,List.not_mem_nil,or_false,not_or];exact⟨hn.1,hn.2.1,hn.1⟩
 ·exact⟨⟨g,hg⟩,.refl _ _⟩
theorem oO:∀(kp:List Nat){s:TS F}{g:G}{a:Act} {w:World},Good P own W0 n s.st g a w→(∃g',Good P own W0 n (kU kp s).st g' a w)∧Fr nv s (kU kp s)
 | [],s,g,a,w,hg=>⟨⟨g,hg⟩,.refl _ _⟩
 | x::r,s,g,a,w,hg=>by
  simp only[kU]
  cases Nat.ble 10000 x with
  | false=>exact oO r hg
  | true=>obtain⟨⟨g1,h1⟩,h2⟩:=Ee (nv:=nv) hg (x - 10000);obtain⟨h3,h4⟩:=oO r h1;exact⟨h3,h2.trans h4⟩
theorem GV{c:Code}{f:TS F→{R:Type}→(Nat→TS F→Option R)→Option R}(hf:aP P own W0 n nv c f)(kp:List Nat):aP P own W0 n nv c (λs R K=>f (kU kp s) K):=by intro s R K r h g a w hg;obtain⟨⟨g',h1⟩,h2⟩:=oO (nv:=nv) kp hg;exact wp_mono (hf _ K r h g' a w h1) (λe a' w' hq=>hq.back h2)
theorem tAuto_ok(hT:TblOk P T)(hΓ : CtxOk P Γ)(hmix:P.follows .mixedOrders=true):∀(c:Code),aP P own W0 n nv c (tAuto T Γ nv n c)
 | .skip=>λs R K r h g a w hg=>wp_skip ⟨0,s,g,rfl,by simpa[tAuto]using h,.refl _ _,hg⟩
 | .exit i=>λs R K r h g a w hg=>wp_exit ⟨i+2,s,g,rfl,by simpa[tAuto]using h,.refl _ _,hg⟩
 | .ret=>λs R K r h g a w hg=>wp_ret ⟨1,s,g,rfl,by simpa[tAuto]using h,.refl _ _,hg⟩
 | .region id ops draw=>λs R K r h g a w hg=>Ca (id:=id) (kp:=[]) hT hΓ hmix s K r (by simp only[tAuto]at h;exact h) g a w hg
 | .seq x y=>λs R K r h g a w hg=>F2 (tAuto_ok hT hΓ hmix x) (tAuto_ok hT hΓ hmix y) s K r (by simp only[tAuto]at h;exact h) g a w hg
 | .cond (.tmp t) x y=>λs R K r h g a w hg=>EU (tAuto_ok hT hΓ hmix x) (tAuto_ok hT hΓ hmix y) s K r (by simp only[tAuto]at h;exact h) g a w hg
 | .cond (.const v) x y=>by
  cases v with
  | bool b=>exactλs R K r h g a w hg=>DO (tAuto_ok hT hΓ hmix x) (tAuto_ok hT hΓ hmix y) s K r (by simp only[tAuto]at h;exact h) g a w hg
  | _=>exactλs R K r h g a w hg=>by simp[tAuto]at h
 | .cond (.global _) x y=>λs R K r h g a w hg=>by simp[tAuto]at h
 | .cond (.func _) x y=>λs R K r h g a w hg=>by simp[tAuto]at h
 | .block i x=>λs R K r h g a w hg=>CS (tAuto_ok hT hΓ hmix x) s K r (by simp only[tAuto]at h;exact h) g a w hg
 | .loop x=>λs R K r h g a w hg=>by simp[tAuto]at h
 | .goto x=>λs R K r h g a w hg=>by simp[tAuto]at h
 | .label x=>λs R K r h g a w hg=>wp_label ⟨0,s,g,rfl,by simpa[tAuto]using h,.refl _ _,hg⟩
 | .rangeFunc _ _ _ _=>λs R K r h g a w hg=>by simp[tAuto]at h
 | .refuse _=>λs R K r h g a w hg=>by simp[tAuto]at h
 | .scope x=>λs R K r h g a w hg=>Dp (tAuto_ok hT hΓ hmix x) s K r (by simp only[tAuto]at h;exact h) g a w hg
theorem DW{dr kill:List Nat}{c0:Nat}{ks:Ks}{s0 z:TS F}{v:TLS F ks}(h:packX Γ s0 dr c0 kill ks z=some v) :
  (∀x∈z.dE,x∈dr)∧idsOk c0 kill z.dM=true∧∃p,packS Γ s0 z ks=some p∧p.x=v∧cA (somes p.os)=true∧disjN (somes p.os) p.fz=true∧idsOk c0 kill (somes p.os)=true∧idsOk c0 kill p.fz=true:=by
 unfold packX at h;obtain⟨h1,h⟩:=aI h;simp only[Bool.and_eq_true]at h1;split at h
 ·cases h
 ·rename_i p hp;obtain⟨h2,h⟩:=aI h;simp only[Bool.and_eq_true,and_assoc]at h2;cases h;exact⟨λx hx=>aF.1 (List.all_eq_true.1 h1.1 x hx),h1.2,p,hp,rfl,h2⟩
theorem yi{dr kill:List Nat}{c0:Nat}{s0:TS F}:∀{xs:List (Nat×Ks)} {e:Nat} {z:TS F} {v:ExT F xs},finX Γ s0 dr c0 kill xs e z=some v→
  ∃ks x,packX Γ s0 dr c0 kill ks z=some x∧(∀y∈keysOf ks,y∈keysX xs)∧∀{R:Type}(K:(e:Nat)→(ks:Ks)→TLS F ks→Option R),elimX K xs v=K e ks x
 | [],e,z,v,h=>by cases h
 | [x],e,z,v,h=>by
  simp only[finX]at h;obtain⟨h1,h⟩:=aI h;have:=Nat.eq_of_beq_eq_true h1;subst this;rw[h1]at h
  exact⟨x.2,v,h,λy hy=>by simpa[keysX]using hy,λK=>rfl⟩
 | x::y::r,e,z,v,h=>by
  simp only[finX]at h;split at h
  ·rename_i hb;have:=Nat.eq_of_beq_eq_true hb;subst this;split at h
   ·rename_i v' hv';cases h
    exact⟨x.2,v',hv',λy hy=>by simp[keysX,hy],λK=>rfl⟩
   ·cases h
  ·split at h
   ·rename_i v' hv';cases h;obtain⟨ks,x',h1,h2,h3⟩:=yi hv'
    exact⟨ks,x',h1,λy hy=>by have:=h2 y hy;simp only[keysX,List.flatMap_cons,List.mem_append]at this ⊢;exact .inr this,λK=>h3 K⟩
   ·cases h
theorem qN(hΓ : CtxOk P Γ){s z:TS F}{gs g:G}{as a:Act}{ws w W1:World}(hs:Good P own W1 n s.st gs as ws)(hz:Good P own W0 n z.st g a w){dr kill:List Nat}
  (hE:∀x,x<nv→x∉dr→x∉z.dE→look z.E x=look s.E x) (hM:∀id,id<s.c→id∉kill→id∉z.dM→look z.M id=look s.M id) {ks:Ks} (hk:∀y∈keysOf ks,y∈dr) {v:TLS F ks} (h:packX Γ s dr s.c kill ks z=some v) :
  (∃g',Good P own W0 n (merge nv dr kill s ks v).st g' a w)∧Fr nv s (merge nv dr kill s ks v)∧Fr nv (clean s) (merge nv dr kill (clean s) ks v):=by
 obtain⟨h1,h2,p,h3,rfl,h4,h5,h6,h7⟩:=DW h
 obtain⟨k1,k2,_⟩:=Ae hΓ hs hz (dr:=dr) (kill:=kill) (λx hx hn=>hE x hx hn (λhd=>hn (h1 x hd))) (λid hi hn=>hM id hi hn (λhd=>by
  rcases pw h2 hd with h | h
  ·omega
  ·exact hn h)) h3 h4 h5 h6 h7
 exact⟨k1,k2 hk⟩
theorem zZ(hΓ : CtxOk P Γ){s z:TS F}{gs g:G}{as a:Act}{ws w W1:World}(hs:Good P own W1 n s.st gs as ws)(hz:Good P own W0 n z.st g a w){dr kill:List Nat}
  (hE:∀x,x<nv→x∉dr→x∉z.dE→look z.E x=look s.E x) (hM:∀id,id<s.c→id∉kill→id∉z.dM→look z.M id=look s.M id) {ks:Ks} {v:TLS F ks} (h:packX Γ s dr s.c kill ks z=some v) :
  (∃g',Good P own W0 n (merge nv dr kill s ks v).st g' a w)∧(∀q∈(unpS s.E ks v s.c).2.1,s.c≤q.1∨q.1∈kill)∧(∀y,y∉keysOf ks→look (unpS s.E ks v s.c).1 y=none)∧s.c≤(unpS s.E ks v s.c).2.2:=by
 obtain⟨h1,h2,p,h3,rfl,h4,h5,h6,h7⟩:=DW h
 obtain⟨k1,k2,k3,k4,k5⟩:=Ae hΓ hs hz (dr:=dr) (kill:=kill) (λx hx hn=>hE x hx hn (λhd=>hn (h1 x hd))) (λid hi hn=>hM id hi hn (λhd=>by
  rcases pw h2 hd with h | h
  ·omega
  ·exact hn h)) h3 h4 h5 h6 h7
 exact⟨k1,k3,k4,k5⟩
theorem I_(hΓ : CtxOk P Γ){c:Code}{f:TS F→{R:Type}→(Nat→TS F→Option R)→Option R}(hf:aP P own W0 n nv c f){dr:List Nat}{xs:List (Nat×Ks)}(hx:∀y∈keysX xs,y∈dr) :
  aP P own W0 n nv c (λs R K=>(f (clean s) λe s'=>finX Γ s dr s.c (aG s dr) xs e s').bind λv=>elimX (λe ks x=>K e (merge nv dr (aG s dr) s ks x)) xs v):=by
 intro s R K r h g a w hg;rw[Option.bind_eq_some_iff]at h;obtain⟨v,hv,he⟩:=h;refine wp_mono (hf (clean s) _ v hv g a w hg) ?_;rintro e a' w' ⟨i,s',g',rfl,h2,h3,h4⟩;obtain⟨ks,x,hp,hsub,hel⟩:=yi h2;rw[hel]at he;obtain⟨⟨g2,k1⟩,k2,_⟩:=qN hΓ hg h4 (λx hx _ hn=>h3.e x hx hn) (λid hi _ hn=>h3.m id hi hn) (λy hy=>hx y (hsub y hy)) hp;exact⟨i,_,g2,rfl,he,k2,k1⟩
def LW(P:Program)(c:Code)(Q:Exit→Act→World→Prop)(a:Act)(w:World):Prop:=
 ∀b tl cs,∃e a' w',Q e a' w'∧Arrives P (lone (b.at a (.code c::.inLoop c::tl)) cs w) b tl cs e a' w'
theorem LW.loop{c:Code}{Q:Exit→Act→World→Prop}{a:Act}{w:World}(h:LW P c Q a w):(Code.loop c).wp P Q a w:=by intro b tl cs;obtain⟨e,a',w',hq,harr⟩:=h b tl cs;exact⟨e,a',w',hq,.of_steps (.one step_loop) harr⟩
theorem LW.mono{c:Code}{Q Q':Exit→Act→World→Prop}{a:Act}{w:World}(h:LW P c Q a w)(hq:∀e a w,Q e a w→Q' e a w):LW P c Q' a w:=by intro b tl cs;obtain⟨e,a',w',h1,harr⟩:=h b tl cs;exact⟨e,a',w',hq _ _ _ h1,harr⟩
theorem LW.round{c:Code}{Q:Exit→Act→World→Prop}{a:Act}{w:World}(h:c.wp P (Exit.then (λa' w'=>LW P c Q a' w') Q) a w):LW P c Q a w:=by
 intro b tl cs;obtain⟨e,a₁,w₁,hq,harr⟩:=h b (.inLoop c::tl) cs
 cases e with
 | normal=>obtain⟨e₂,a₂,w₂,hq₂,harr₂⟩:=hq b tl cs;exact⟨e₂,a₂,w₂,hq₂,.of_steps (Steps.trans harr (.one step_inLoop)) harr₂⟩
 | exit id=>exact⟨_,a₁,w₁,hq,.pass (x:=.inLoop c) rfl (λ_ _=>.inl (by simp)) harr⟩
 | goto l=>exact⟨_,a₁,w₁,hq,.pass (x:=.inLoop c) rfl (λ_ _=>.inl (by simp)) harr⟩
 | ret=>exact⟨_,a₁,w₁,hq,.pass (x:=.inLoop c) rfl (λ_ _=>.inl (by simp)) harr⟩
 | panic ch=>exact⟨_,a₁,w₁,hq,.pass (x:=.inLoop c) rfl (λ_ _=>.inl (by simp)) harr⟩
 | outgrown=>exact⟨_,a₁,w₁,hq,.pass (x:=.inLoop c) rfl (λ_ _=>.inl (by simp)) harr⟩
theorem DX{c:Code}{Q:Exit→Act→World→Prop}(I:Nat→Act→World→Prop)(round:∀k a w,I k a w→c.wp P (Exit.then (λa' w'=>∃j,j<k∧I j a' w') Q) a w){k:Nat}{a:Act}{w:World}(h₀ : I k a w):LW P c Q a w:=by
 intro b tl cs
 have key:∀n a w,I n a w→∃e a' w',Q e a' w'∧Arrives P (lone (b.at a (.code c::.inLoop c::tl)) cs w) b tl cs e a' w':=by
  intro n
  induction n using Nat.strongRecOn with
  | _ n ih=>
   intro a w hI;obtain⟨e,a₁,w₁,hq,harr⟩:=round n a w hI b (.inLoop c::tl) cs
   cases e with
   | normal=>obtain⟨j,hlt,hI₁⟩:=hq;obtain⟨e₂,a₂,w₂,hq₂,harr₂⟩:=ih j hlt a₁ w₁ hI₁;exact⟨e₂,a₂,w₂,hq₂,.of_steps (Steps.trans harr (.one step_inLoop)) harr₂⟩
   | exit id=>exact⟨_,a₁,w₁,hq,.pass (x:=.inLoop c) rfl (λ_ _=>.inl (by simp)) harr⟩
   | goto l=>exact⟨_,a₁,w₁,hq,.pass (x:=.inLoop c) rfl (λ_ _=>.inl (by simp)) harr⟩
   | ret=>exact⟨_,a₁,w₁,hq,.pass (x:=.inLoop c) rfl (λ_ _=>.inl (by simp)) harr⟩
   | panic ch=>exact⟨_,a₁,w₁,hq,.pass (x:=.inLoop c) rfl (λ_ _=>.inl (by simp)) harr⟩
   | outgrown=>exact⟨_,a₁,w₁,hq,.pass (x:=.inLoop c) rfl (λ_ _=>.inl (by simp)) harr⟩
 exact key k a w h₀
theorem vA{c:Code}{Q:Exit→Act→World→Prop}(I:Nat→Act→World→Prop)(round:∀k a w,I k a w→c.wp P (Exit.then (λa' w'=>∃j,j<k∧I j a' w') Q) a w){k:Nat}{a:Act}{w:World}(h₀ : I k a w):(Code.loop c).wp P Q a w:=
 LW.loop (DX I round h₀)
def Dj(P:Program)(own:Ow)(W0:World)(n nv:Nat)(c:Code)(f:TS F→{R:Type}→(Nat→TS F→Option R)→Option R):Prop:=
 ∀(s:TS F){R:Type}(K:Nat→TS F→Option R)(r:R),f s K=some r→∀(g:G)(a:Act)(w:World),Good P own W0 n s.st g a w→LW P c (Aft P own W0 n nv s K r) a w
theorem DP(hΓ : CtxOk P Γ){c:Code}{f:TS F→{R:Type}→(Nat→TS F→Option R)→Option R}(hf:aP P own W0 n nv c f){dr:List Nat}{ks:Ks}{xs:List (Nat×Ks)}(hx:∀y∈keysX xs,y∈dr)(hk:∀y∈keysOf ks,y∈dr) :
  Dj P own W0 n nv c (λs R K=>match packX Γ s dr s.c (aG s dr) ks (clean s)with
  | none=>none
  | some t0=>(loop (λt:TLS F ks=>f (clean (merge nv dr (aG s dr) s ks t)) λe s'=>match e with
    | 0=>(match packX Γ s dr s.c (aG s dr) ks s' with | some t'=>some (Sum.inl t') | none=>none)
    | e=>(match finX Γ s dr s.c (aG s dr) xs e s' with | some v=>some (Sum.inr v) | none=>none)) t0).bind λv=>elimX (λe ks x=>K e (merge nv dr (aG s dr) s ks x)) xs v):=by
 intro s R K r h g a w hg;dsimp only at h;split at h
 ·cases h
 ·rename_i t0 ht0;rw[Option.bind_eq_some_iff]at h;obtain⟨v,hv,he⟩:=h
  generalize hstep:(λt:TLS F ks=>f (clean (merge nv dr (aG s dr) s ks t)) λe s'=>match e with
    | 0=>(match packX Γ s dr s.c (aG s dr) ks s' with | some t'=>some (Sum.inl t') | none=>none)
    | e=>(match finX Γ s dr s.c (aG s dr) xs e s' with | some v=>some (Sum.inr v) | none=>none))=step at hv
  obtain⟨m,hm⟩:=Cf hv;obtain⟨⟨g0,b1⟩,_,b3⟩:=qN hΓ hg (z:=clean s) hg (λ_ _ _ _=>rfl) (λ_ _ _ _=>rfl) hk ht0;refine DX (λm a w=>∃t,iter step m t=some v∧(∃g,Good P own W0 n (merge nv dr (aG s dr) s ks t).st g a w)∧Fr nv (clean s) (merge nv dr (aG s dr) (clean s) ks t)) ?_ (k:=m) ⟨t0,hm,⟨g0,b1⟩,b3⟩;rintro m a w ⟨t,hit,⟨g1,hg1⟩,hfr⟩
  cases m with
  | zero=>cases hit
  | succ m=>
   simp only[iter]at hit
   have hend:∀{z:TS F}{g':G}{a':Act}{w':World},Fr nv (clean (merge nv dr (aG s dr) s ks t)) z→Good P own W0 n z.st g' a' w'→∀{ks':Ks},(∀y∈keysOf ks',y∈dr)→∀{x:TLS F ks'},packX Γ s dr s.c (aG s dr) ks' z=some x→
     (∃g',Good P own W0 n (merge nv dr (aG s dr) s ks' x).st g' a' w')∧Fr nv s (merge nv dr (aG s dr) s ks' x)∧Fr nv (clean s) (merge nv dr (aG s dr) (clean s) ks' x):=by
    intro z g' a' w' hz hgz ks' hk' x hp;refine qN hΓ hg hgz (λy hy hn hd=>?_) (λid hi hn hd=>?_) hk' hp
    ·exact(hz.e y hy hd).trans (hfr.e y hy (by simpa[merge,clean]using hn))
    ·exact(hz.m id (Nat.lt_of_lt_of_le hi hfr.c) hd).trans (hfr.m id hi (by simpa[merge,clean]using hn))
   cases hst:step t with
   | none=>rw[hst]at hit;cases hit
   | some q=>
    have hst':=hst;rw[← hstep]at hst';refine wp_mono (hf (clean (merge nv dr (aG s dr) s ks t)) _ q hst' g1 a w hg1) ?_;rintro e a' w' ⟨i,z,g',rfl,h2,h3,h4⟩;rw[hst]at hit
    match i,h2 with
    | 0,h2=>
     simp only at h2;split at h2
     ·rename_i t' ht';cases h2;obtain⟨k1,_,k3⟩:=hend h3 h4 hk ht';exact⟨m,Nat.lt_succ_self m,t',hit,k1,k3⟩
     ·cases h2
    | i+1,h2=>
     simp only at h2;split at h2
     ·rename_i v' hv';cases h2;cases hit;obtain⟨ks',x,hp,hsub,hel⟩:=yi hv';rw[hel]at he;obtain⟨⟨g2,k1⟩,k2,_⟩:=hend h3 h4 (λy hy=>hx y (hsub y hy)) hp;have:Aft P own W0 n nv s K r (exC (i+1)) a' w':=⟨i+1,_,g2,rfl,he,k2,k1⟩
      cases i with
      | zero=>exact this
      | succ i=>exact this
     ·cases h2
theorem I2(hΓ : CtxOk P Γ){c:Code}{f:TS F→{R:Type}→(Nat→TS F→Option R)→Option R}(hf:aP P own W0 n nv c f){dr:List Nat}{ks:Ks}{xs:List (Nat×Ks)}(hx:∀y∈keysX xs,y∈dr)(hk:∀y∈keysOf ks,y∈dr) :
  aP P own W0 n nv (.loop c) (λs R K=>match packX Γ s dr s.c (aG s dr) ks (clean s)with
  | none=>none
  | some t0=>(loop (λt:TLS F ks=>f (clean (merge nv dr (aG s dr) s ks t)) λe s'=>match e with
    | 0=>(match packX Γ s dr s.c (aG s dr) ks s' with | some t'=>some (Sum.inl t') | none=>none)
    | e=>(match finX Γ s dr s.c (aG s dr) xs e s' with | some v=>some (Sum.inr v) | none=>none)) t0).bind λv=>elimX (λe ks x=>K e (merge nv dr (aG s dr) s ks x)) xs v):=λs R K r h g a w hg=>LW.loop (DP hΓ hf hx hk s K r h g a w hg)
theorem Ht{c:Code}{f:TS F→{R:Type}→(Nat→TS F→Option R)→Option R}(hf:aP P own W0 n nv c f){x ix ex:Nat}{dr:List Nat} :
  aP P own W0 n nv (.loop c) (λs R K=>match look s.E x with
  | some (.c (.wsl id))=>match look s.M id with
   | some (.row t l0)=>match look s.E ix with
    | some (.c (.im (.i .i64 n0)))=>if Nat.blt id s.c&&Nat.blt 0 ex then
      (loop (λq:List (ET F t)×Nat×Int=>f (clean (headM nv s id ix dr (.mrow t q.1 q.2.1) q.1.length q.2.2)) λe s'=>match e with
       | 0=>(match endM s.c id ix dr t s' with | some q'=>some (Sum.inl q') | none=>none)
       | e=>if Nat.beq e ex then(match endM s.c id ix dr t s' with | some q'=>some (Sum.inr q') | none=>none)else none) (l0,0,n0)).bind λv=>
        cond (Nat.ble v.1.length v.2.1) (K ex (headM nv s id ix dr (.nrow t v.1) v.1.length v.2.2)) none
     else none
    | _=>none
   | _=>none
  | _=>none):=by
 intro s R K r h g a w hg;dsimp only at h;split at h
 ·rename_i id hx;split at h
  ·rename_i t l0 hB;split at h
   ·rename_i n0 hi;obtain⟨hc,h⟩:=aI h;simp only[Bool.and_eq_true,ba,decide_eq_true_eq]at hc;rw[Option.bind_eq_some_iff]at h;obtain⟨v,hv,he⟩:=h
    generalize hstep:(λq:List (ET F t)×Nat×Int=>f (clean (headM nv s id ix dr (.mrow t q.1 q.2.1) q.1.length q.2.2)) λe s'=>match e with
       | 0=>(match endM s.c id ix dr t s' with | some q'=>some (Sum.inl q') | none=>none)
       | e=>if Nat.beq e ex then(match endM s.c id ix dr t s' with | some q'=>some (Sum.inr q') | none=>none)else none)=step at hv
    obtain⟨m,hm⟩:=Cf hv
    have hEout:∀(B:Blk F)(len:Nat)(nn:Int) y,y<nv→y∉ix::dr→look (headM nv s id ix dr B len nn).E y=look s.E y:=by
     intro B len nn y hy hn;simp only[headM]
     rw[ar,if_neg (by rw[am (λe=>hn (by simp[e]))];simp),aD (λy=>Nat.blt y nv&&!(memN y (ix::dr)))]
     rw[if_pos];simp only[Bool.and_eq_true,ba,decide_eq_true_eq,Bool.not_eq_true'];refine⟨hy,?_⟩
     cases hmm:memN y (ix::dr)with
     | false=>rfl
     | true=>exact absurd (aF.1 hmm) hn
    have hMout:∀(B:Blk F)(len:Nat)(nn:Int) y,y<s.c→y≠id→look (headM nv s id ix dr B len nn).M y=look s.M y:=by
     intro B len nn y hy hn;simp only[headM]
     rw[ar,if_neg (by rw[am (λe=>hn e.symm)];simp),ar,if_neg (by rw[am (by omega)];simp),aD (λy=>!(Nat.beq id y)),if_pos]
     rw[am (λe=>hn e.symm)];rfl
    have hstart:∃g0,Good P own W0 n (headM nv s id ix dr (.mrow t l0 0) l0.length n0).st g0 a w:=by
     obtain⟨g1,k1,k2,k3⟩:=H4 (c:=s.c) hg.mem hB (hg.dom s.c (by simp only[TS.st,ba];simp))
     have hz:Good P own W0 n (⟨s.E,setM s.M [(id,none),(s.c,some (.mrow t l0 0)),(id,some (.als s.c l0.length))],s.c+1,s.dE,s.dM⟩:TS F).st g1 a w:=by
      refine⟨hg.dfr,hg.tsz,λx d h=>(hg.env x d h).le k2.le,?_,λy hy=>?_,λb hb=>k2.le.imm b (hg.ini b hb),hg.frm.stp hg.mem k2,λy p hp=>k2.le.ids _ _ (hg.nam y p hp)⟩
      ·have e:(⟨s.E,setM s.M [(id,none),(s.c,some (.mrow t l0 0)),(id,some (.als s.c l0.length))],s.c+1,s.dE,s.dM⟩:TS F).st.m=updM s.st.m [(id,none),(s.c,some (.mrow t l0 0)),(id,some (.als s.c l0.length))]:=by
        funext x
        simp only[TS.st];rw[dZ]
       rw[e];exact k1
      ·have hy:Nat.blt y (s.c+1)=false:=hy;rw[ba]at hy
       have hy':¬ y<s.c+1:=by simpa using hy
       rw[k3 y (by omega)]
       exact hg.dom y (by simp only[TS.st,ba];simp;omega)
     have hMs:look (setM s.M [(id,none),(s.c,some (.mrow t l0 0)),(id,some (.als s.c l0.length))]) s.c=some (.mrow t l0 0):=by
      rw[dZ];simp only[updM]
      rw[if_neg (by rw[am (by omega)];simp),if_pos (Nat.beq_refl _)]
     have hMi:look (setM s.M [(id,none),(s.c,some (.mrow t l0 0)),(id,some (.als s.c l0.length))]) id=some (.als s.c l0.length):=by rw[dZ];simp only[updM];rw[if_pos (Nat.beq_refl _)]
     refine wv (kk:=s.c) (B:=.mrow t l0 0) hg hz hc.1 (λ_ _ _=>rfl) hi (λy hy hn=>?_) hMs rfl (.inr (Nat.le_refl _)) (hz.mem.ok id _ hMi) (λg2 e1 e2=>?_) rfl
     ·show look (setM s.M _) y=_;rw[dZ,cx];simp only[List.map_cons,List.map_nil,List.mem_cons,List.not_mem_nil,or_false,not_or]
      exact⟨hn,by omega,hn⟩
     ·obtain⟨pl,p1,p2⟩:=hz.mem.ok s.c _ hMs
      exact⟨pl,by rw[e1];exact p1,by rw[e2];exact p2⟩
    have hround:∀{z:TS F}{g':G}{a':Act}{w':World} {q0 q:List (ET F t)×Nat×Int},Fr nv (clean (headM nv s id ix dr (.mrow t q0.1 q0.2.1) q0.1.length q0.2.2)) z→Good P own W0 n z.st g' a' w'→endM s.c id ix dr t z=some q→
      (∃g2,Good P own W0 n (headM nv s id ix dr (.mrow t q.1 q.2.1) q.1.length q.2.2).st g2 a' w')∧(q.1.length≤q.2.1→∃g2,Good P own W0 n (headM nv s id ix dr (.nrow t q.1) q.1.length q.2.2).st g2 a' w'):=by
     intro z g' a' w' q0 q hfr hz hq;unfold endM at hq;obtain⟨hq1,hq⟩:=aI hq;simp only[Bool.and_eq_true,List.all_eq_true]at hq1;split at hq
     ·rename_i nn hnn;split at hq
      ·rename_i k len hals;split at hq
       ·rename_i t' l j hmrow;split at hq
        ·rename_i htt;subst htt;obtain⟨hkk,hq⟩:=aI hq;have hkk:=Nat.le_of_ble_eq_true hkk;cases hq
         have hS:SameM l.length (g'.ids id) (g'.ids (resF (look z.M) 8 k)):=by
          have h1:SameM len (g'.ids id) (g'.ids k):=hz.mem.ok id _ hals
          have h2:SameM len (g'.ids id) (g'.ids (resF (look z.M) 8 k)):=by
           rcases xz hz.mem (λ_ _ h=>h) 8 k with e | ⟨_,e⟩
           ·have e':resF (look z.M) 8 k=k:=e;rw[e'];exact h1
           ·exact h1.trans e
          exact h2.len (hz.mem.ok _ _ hmrow)
         have hE:∀y,y<nv→y∉ix::dr→look z.E y=look s.E y:=by intro y hy hn;rw[hfr.e y hy (λhd=>hn (aF.1 (hq1.1 y hd)))];exact hEout (.mrow _ q0.1 q0.2.1) q0.1.length q0.2.2 y hy hn
         have hM:∀y,y<s.c→y≠id→look z.M y=look s.M y:=by
          intro y hy hn
          rw[hfr.m y (by show y<s.c+1;omega) (λhd=>by
           have:=hq1.2 y hd;rw[Bool.or_eq_true]at this;rcases this with this | this
           ·have:=Nat.le_of_ble_eq_true this;omega
           ·exact hn (Nat.eq_of_beq_eq_true this))]
          exact hMout (.mrow _ q0.1 q0.2.1) q0.1.length q0.2.2 y hy hn
         refine⟨wv (kk:=resF (look z.M) 8 k) hg hz hc.1 hE hnn hM hmrow rfl (.inr hkk) hS (λg2 e1 e2=>?_) rfl,λhj=>wv (kk:=resF (look z.M) 8 k) hg hz hc.1 hE hnn hM hmrow rfl (.inr hkk) hS (λg2 e1 e2=>?_) rfl⟩
         ·obtain⟨pl,p1,p2⟩:=hz.mem.ok _ _ hmrow
          exact⟨pl,by rw[e1];exact p1,by rw[e2];exact p2⟩
         ·obtain⟨pl,p1,p2⟩:=G6 (hz.mem.ok _ _ hmrow) hj
          exact⟨pl,by rw[e1];exact p1,by rw[e2];exact p2⟩
        ·cases hq
       ·cases hq
      ·cases hq
     ·cases hq
    refine vA (λm a w=>∃q,iter step m q=some v∧∃g,Good P own W0 n (headM nv s id ix dr (.mrow t q.1 q.2.1) q.1.length q.2.2).st g a w) ?_ (k:=m) ⟨(l0,0,n0),hm,hstart⟩;rintro m a w ⟨q,hit,g1,hg1⟩
    cases m with
    | zero=>cases hit
    | succ m=>
     simp only[iter]at hit
     cases hst:step q with
     | none=>rw[hst]at hit;cases hit
     | some qq=>
      have hst':=hst;rw[← hstep]at hst';refine wp_mono (hf (clean (headM nv s id ix dr (.mrow t q.1 q.2.1) q.1.length q.2.2)) _ qq hst' g1 a w hg1) ?_;rintro e a' w' ⟨i,z,g',rfl,h2,h3,h4⟩;rw[hst]at hit
      match i,h2 with
      | 0,h2=>
       simp only at h2;split at h2
       ·rename_i q' hq';cases h2;exact⟨m,Nat.lt_succ_self m,q',hit,(hround h3 h4 hq').1⟩
       ·cases h2
      | i+1,h2=>
       simp only at h2;obtain⟨hie,h2⟩:=aI h2;have hie:=Nat.eq_of_beq_eq_true hie;split at h2
       ·rename_i q' hq';cases h2;cases hit
        cases hble:Nat.ble v.1.length v.2.1 with
        | false=>rw[hble]at he;cases he
        | true=>
         rw[hble]at he;obtain⟨g2,k1⟩:=(hround h3 h4 hq').2 (Nat.le_of_ble_eq_true hble)
         have:Aft P own W0 n nv s K r (exC (i+1)) a' w':=by
          refine⟨i+1,_,g2,rfl,by rw[hie];exact he,⟨λy hy hn=>?_,λy hy hn=>?_,Nat.le_succ _,λy hy=>?_,λy hy=>?_⟩,k1⟩
          ·exact hEout _ _ _ y hy (λhh=>hn (by
            show y∈ix::(dr++s.dE);rcases List.mem_cons.1 hh with rfl | hh
            ·simp
            ·simp[hh]))
          ·exact hMout _ _ _ y hy (λhh=>hn (by show y∈id::s.dM;simp[hh]))
          ·show y∈ix::(dr++s.dE);simp[hy]
          ·show y∈id::s.dM;simp[hy]
         cases i with
         | zero=>exact this
         | succ i=>exact this
       ·cases h2
   ·cases h
  ·cases h
 ·cases h
theorem KY{c:Code}{f:TS F→{R:Type}→(Nat→TS F→Option R)→Option R}(hf:aP P own W0 n nv c f)(k:Nat):aP P own W0 n nv (.loop c) (unr f k):=by
 intro s R K r h g a w hg;refine LW.loop ?_
 induction k generalizing s g a w with
 | zero=>simp[unr]at h
 | succ k ih=>
  simp only[unr]at h;refine LW.round (wp_mono (hf s _ r h g a w hg) ?_);rintro e a' w' ⟨i,s',g',rfl,h2,h3,h4⟩
  match i,h2 with
  | 0,h2=>exact(ih s' h2 g' a' w' h4).mono (λ_ _ _ hq=>hq.back h3)
  | 1,h2=>exact⟨1,s',g',rfl,h2,h3,h4⟩
  | i+2,h2=>exact⟨i+2,s',g',rfl,h2,h3,h4⟩
theorem JE{c:Code}{f f2:TS F→{R:Type}→(Nat→TS F→Option R)→Option R}(hf:aP P own W0 n nv c f)(hf2:Dj P own W0 n nv c f2) :
  aP P own W0 n nv (.loop c) (λs R K=>f s λe s'=>match e with | 0=>f2 s' K | e=>K e s'):=by
 intro s R K r h g a w hg;refine LW.loop (LW.round (wp_mono (hf s _ r h g a w hg) ?_));rintro e a' w' ⟨i,s',g',rfl,h2,h3,h4⟩
 match i,h2 with
 | 0,h2=>exact(hf2 s' K r h2 g' a' w' h4).mono (λ_ _ _ hq=>hq.back h3)
 | 1,h2=>exact⟨1,s',g',rfl,h2,h3,h4⟩
 | i+2,h2=>exact⟨i+2,s',g',rfl,h2,h3,h4⟩
theorem Gv{τ α ω : Type}{t0:ω→Option τ}{step:ω→τ→α→Option τ}{l:List α}{r:τ}(h:rng t0 step l=some r):∃st,st=step∧∃t,(∀ob,t0 ob=some t)∧rngOk st l l.length [] t r:=⟨step,rfl,Ia h⟩
theorem Ip{s s':St F}{g:G}{a a':Act}{w:World}(hg:Good P own W0 n s g a w)(hd:a'.defers = [])(hs:a'.tmps.size=n)(he:∀x d,s'.e x=some d→d = .c .any∨(s.e x=some d∧a'.tmps.getD x undef=a.tmps.getD x undef))
  (hm:∀id B,s'.m id=some B→s.m id=some B) (hu:∀id,s'.u id=false→s.u id=false):Good P own W0 n s' g a' w:=by
 refine⟨hd,hs,λx d h=>?_,hg.mem.sub hm,λid hi=>hg.dom id (hu id hi),hg.ini,hg.frm,hg.nam⟩;rcases he x d h with rfl | ⟨h1,h2⟩
 ·exact .c .any
 ·rw[h2];exact hg.env x d h1
theorem D9{s:TS F}{g:G}{a:Act}{w:World}(hg:Good P own W0 n s.st g a w){d:Nat}(hd:d<n){v:Dat F}{x:Value}(hv:RepD P g w v x)(dE dM:List Nat) :
  Good P own W0 n (⟨(d,v)::s.E,s.M,s.c,dE,dM⟩:TS F).st g (a.put (some d) x) w:=by
 refine⟨hg.dfr,by simp[Act.put,hg.tsz],?_,hg.mem,hg.dom,hg.ini,hg.frm,hg.nam⟩
 intro y e hy;simp only[TS.st,ar]at hy;simp only[Act.put];rw[Array.getD_eq_getD_getElem?,Array.getElem?_setIfInBounds];by_cases hdy:d=y
 ·subst hdy;rw[aV]at hy;simp only[if_true,Option.some.injEq]at hy;subst hy
  rw[if_pos rfl,if_pos (by rw[hg.tsz];exact hd)]
  exact hv
 ·rw[am hdy]at hy;rw[if_neg hdy,← Array.getD_eq_getD_getElem?]
  exact hg.env y e (by simpa[TS.st]using hy)
theorem qY{a:Act}{d:Nat}(hd:d<a.tmps.size){x:Value}:(a.put (some d) x).eval (.tmp d)=x:=by simp only[Act.put,Act.eval];rw[Array.getD_eq_getD_getElem?,Array.getElem?_setIfInBounds,if_pos rfl,if_pos hd];rfl
theorem sq{opsA:Array Oper}{i:Nat}{o:Oper}(hi:opsA[i]? = some o)(hg:o.guard=none){v:Value}{w w':World}{a:Act}(hrun:(execOp a.eval o).run P w = .ok (.value v) w'){rest:List Nat}{Q:Exit→Act→World→Prop}(hn:wpOps P opsA Q rest (a.put o.dst v) w'):wpOps P opsA Q (i::rest) a w:=by
 rw[wpOps_cons];unfold wpOp;rw[hi];dsimp only
 rw[show Region.wanted o (yielded opsA a.tmps)=true by simp[Region.wanted,hg],if_pos rfl]
 left;unfold Oper.wp;rw[hrun];exact hn
theorem BX{s s':St F}{g:G}{a:Act}{w:World}(hg:Good P own W0 n s g a w){id b:Nat}{ob ob':Obj}(hB:s.m id=some (.it ob))(hid:g.ids id=some (some (b,0,0,[])))(he:s'.e=s.e)(hu:s'.u=s.u)
  (hm:∀x B,s'.m x=some B→if x=id then B = .it ob' else s.m x=some B):Good P own W0 n s' g a (stO w b ob'):=by
 obtain⟨k1,k2⟩:=uY (ob:=ob') (B':=.it ob') hg.mem hB rfl (G.blk_main hid) (λhh _=>⟨b,hid,hh⟩)
 refine⟨hg.dfr,hg.tsz,λx d h=>(hg.env x d (by rw[← he];exact h)).le k2.le,k1.sub ?_,λid hi=>hg.dom id (by rw[← hu];exact hi),hg.ini,hg.frm.stp hg.mem k2,hg.nam⟩
 intro x B hx;have:=hm x B hx;simp only[updM];by_cases hxi:x=id
 ·subst hxi;rw[if_pos rfl]at this;rw[aV,if_pos rfl,this]
 ·rw[if_neg hxi]at this;rw[am (λe=>hxi e.symm)];simpa using this
def Ow.fix(own:Ow)(i1:Nat)(p1:Pl)(i2:Nat)(p2:Pl):Ow:=⟨own.o,own.i,λid=>if id=i1 then some p1 else if id=i2 then some p2 else own.nm id⟩
theorem Good.fix{s:St F}{g:G}{a:Act}{w:World}(hg:Good P own W0 n s g a w){i1 i2:Nat}{p1 p2:Pl}(h1:g.ids i1=some p1)(h2:g.ids i2=some p2):Good P (own.fix i1 p1 i2 p2) W0 n s g a w:=by
 refine⟨hg.dfr,hg.tsz,hg.env,⟨hg.mem.ok,hg.mem.dis,hg.mem.own,hg.mem.imm,hg.mem.io,hg.mem.len⟩,hg.dom,hg.ini,⟨hg.frm.os,hg.frm.tape,hg.frm.output,hg.frm.size,hg.frm.fresh,hg.frm.block,hg.frm.drawn⟩,?_⟩;intro id p hp;simp only[Ow.fix]at hp;split at hp
 ·rename_i e;cases hp;rw[e];exact h1
 ·split at hp
  ·rename_i e;cases hp;rw[e];exact h2
  ·exact hg.nam id p hp
theorem Good.unfix{s:St F}{g:G}{a:Act}{w:World}{i1 i2:Nat}{p1 p2:Pl}(hg:Good P (own.fix i1 p1 i2 p2) W0 n s g a w)(h1:∀p,own.nm i1=some p→p=p1)(h2:∀p,own.nm i2=some p→p=p2):Good P own W0 n s g a w:=by
 refine⟨hg.dfr,hg.tsz,hg.env,⟨hg.mem.ok,hg.mem.dis,hg.mem.own,hg.mem.imm,hg.mem.io,hg.mem.len⟩,hg.dom,hg.ini,⟨hg.frm.os,hg.frm.tape,hg.frm.output,hg.frm.size,hg.frm.fresh,hg.frm.block,hg.frm.drawn⟩,?_⟩;intro id p hp;refine hg.nam id p ?_;simp only[Ow.fix];split
 ·rename_i e;rw[e]at hp;rw[h1 p hp]
 ·split
  ·rename_i e;rw[e]at hp;rw[h2 p hp]
  ·exact hp
theorem Et{ops0 ops1 ops2:List Oper}{c2:Nat}{h:RgS}(hh:Bv n ops0 ops1 ops2 c2=some h) :
  ∃(oa ob oc od oe:Oper),ops0 = [oa,ob]∧ops1 = [oc,od]∧ops2=oe::h.rest∧(oa.dst=some h.b∧oa.op = .move (.tmp h.a)∧oa.guard=none)∧(ob.dst=some h.it∧ob.op = .range h.ty (.tmp h.b)∧ob.guard=none)∧
   (oc.dst=some h.d1∧oc.op = .next (.tmp h.it) false∧oc.guard=none)∧(od.dst=some c2∧od.op = .extract (.tmp h.d1) 0∧od.guard=none)∧(oe.dst=some h.d3∧oe.op = .entry (.tmp h.it)∧oe.guard=none)∧
   (h.b<n∧h.it<n∧h.d1<n∧c2<n∧h.d3<n)∧h.it≠h.b∧h.it≠h.d1∧h.it≠c2∧h.it≠h.d3∧c2≠h.d1:=by
 unfold Bv at hh;split at hh
 ·obtain⟨hc,hh⟩:=aI hh;cases hh;simp only[Bool.and_eq_true,and_assoc,Nat.beq_eq,Nat.blt_eq,Bool.not_eq_true',Nat.beq_eq_true_eq]at hc;obtain⟨e1,e2,e3,e4,e5,l1,l2,l3,l4,l5,n1,n2,n3,n4,n5⟩:=hc;subst e1 e2 e3 e4 e5
  have hne:∀{x y:Nat},Nat.beq x y=false→x≠y:=λh e=>by rw[e,aV]at h;cases h
  exact⟨_,_,_,_,_,rfl,rfl,rfl,⟨rfl,rfl,rfl⟩,⟨rfl,rfl,rfl⟩,⟨rfl,rfl,rfl⟩,⟨rfl,rfl,rfl⟩,⟨rfl,rfl,rfl⟩,⟨l1,l2,l3,l4,l5⟩,hne n1,hne n2,hne n3,hne n4,hne n5⟩
 ·cases hh
theorem AA{E E':List (Nat×Dat F)}:∀{ks:Ks}{x:TLS F ks}{c:Nat},(∀y∈keysOf ks,look E y=look E' y)→unpS E ks x c=unpS E' ks x c
 | [],x,c,h=>rfl
 | [k],x,c,h=>by
  simp only[unpS,unpS1]
  rw[h k.1 (by simp[keysOf])]
 | k::l::r,x,c,h=>by
  simp only[unpS,unpS1]
  rw[h k.1 (by simp[keysOf])]
  rw[AA (λy hy=>h y (by simp only[keysOf,List.map_cons,List.mem_cons]at hy ⊢;exact .inr hy))]
theorem wK:∀{l1 l2:List Nat},l1.Nodup→(∀x∈l1,x∈l2)→l1.length≤l2.length
 | [],_,_,_=>Nat.zero_le _
 | a::l,l2,hn,hs=>by
  have hn':=List.nodup_cons.1 hn
  have h:=wK (l2:=l2.erase a) hn'.2 (λx hx=>by
   have hxa:x≠a:=λe=>hn'.1 (e▸hx)
   exact(List.mem_erase_of_ne hxa).2 (hs x (by simp[hx])))
  have ha:=hs a (by simp)
  rw[List.length_erase_of_mem ha]at h;have:=List.length_pos_of_mem ha;simp only[List.length_cons];omega
theorem HG{N:Nat}{l:List Nat}(hn:l.Nodup)(hl:∀x∈l,x<N):l.length≤N:=by have h:=wK (l2:=List.range N) hn (λx hx=>List.mem_range.2 (hl x hx));simpa using h
structure Nm(nv:Nat)(s:TS F)(it:Nat)(kill:List Nat)(ks:Ks)(t:TLS F ks):Prop where
 m:∀q∈(unpS ((it,.c (.ptr s.c 0))::s.E) ks t (s.c+1)).2.1,s.c+1≤q.1∨q.1∈kill
 e:∀y,y∉keysOf ks→look (unpS ((it,.c (.ptr s.c 0))::s.E) ks t (s.c+1)).1 y=none
 c:s.c+1≤(unpS ((it,.c (.ptr s.c 0))::s.E) ks t (s.c+1)).2.2
theorem xW{c:Nat}{kill:List Nat}{id:Nat}(hid:id<c)(hnd:id∉kill):∀{l:List (Nat×Blk F)},(∀q∈l,c≤q.1∨q.1∈kill)→look l id=none:=by
 intro l
 induction l with
 | nil=>intro _;rfl
 | cons q l ih=>
  intro h;obtain⟨y,C⟩:=q
  have hne:y≠id:=by
   rintro rfl
   rcases h (y,C) (by simp)with h | h
   ·simp only at h;omega
   ·exact hnd h
  rw[ar,am hne]
  exact ih (λq hq=>h q (by simp[hq]))
theorem Nm.lookM{s:TS F}{it:Nat}{kill dr:List Nat}{ks:Ks}{t:TLS F ks}(h:Nm nv s it kill ks t)(ob:Obj){id:Nat}(hi:id<s.c+1)(hk:id∉kill):look (merge nv dr kill (itB s it ob) ks t).M id=look (itB s it ob).M id:=by
 show look ((unpS ((it,.c (.ptr s.c 0))::s.E) ks t (s.c+1)).2.1++(itB s it ob).M.filter λp=>!(memN p.1 kill)) id=_;rw[aS,xW hi hk h.m,Option.none_or,aD (λy=>!(memN y kill)),if_pos]
 cases hm:memN id kill with
 | true=>exact absurd (aF.1 hm) hk
 | false=>rfl
theorem Nm.lookE{s:TS F}{it:Nat}{kill dr:List Nat}{ks:Ks}{t:TLS F ks}(h:Nm nv s it kill ks t)(ob:Obj){y:Nat}(hk:y∉keysOf ks):look (merge nv dr kill (itB s it ob) ks t).E y=if Nat.blt y nv&&!(memN y dr)then look ((it,.c (.ptr s.c 0))::s.E) y else none:=by show look ((unpS ((it,.c (.ptr s.c 0))::s.E) ks t (s.c+1)).1++((it,.c (.ptr s.c 0))::s.E).filter λp=>Nat.blt p.1 nv&&!(memN p.1 dr)) y=_;rw[aS,h.e y hk,Option.none_or,aD (λy=>Nat.blt y nv&&!(memN y dr))]
theorem HD{s:St F}{g:G}{a a':Act}{w:World}(hg:Good P own W0 n s g a w)(hd:a'.defers = [])(hs:a'.tmps.size=n)(he:∀x d,s.e x=some d→a'.tmps.getD x undef=a.tmps.getD x undef):Good P own W0 n s g a' w:=
 ⟨hd,hs,λx d h=>by rw[he x d h];exact hg.env x d h,hg.mem,hg.dom,hg.ini,hg.frm,hg.nam⟩
theorem putD{a:Act}{d x:Nat}{v:Value}:(a.put (some d) v).tmps.getD x undef=if d=x then(if d<a.tmps.size then v else undef)else a.tmps.getD x undef:=by
 simp only[Act.put];rw[Array.getD_eq_getD_getElem?,Array.getElem?_setIfInBounds];by_cases h:d=x
 ·rw[if_pos h,if_pos h];by_cases h2:d<a.tmps.size
  ·rw[if_pos h2,if_pos h2];rfl
  ·rw[if_neg h2,if_neg h2];rfl
 ·rw[if_neg h,if_neg h,← Array.getD_eq_getD_getElem?]
theorem II(hT:TblOk P T)(hΓ : CtxOk P Γ){id0 id1 id2 i j c2:Nat}{ops0 ops1 ops2:Array Oper}{body:Code}{f:TS F→{R:Type}→(Nat→TS F→Option R)→Option R}
  (hf:∀own:Ow,aP P own W0 n nv body f) {ks:Ks} {dr:List Nat} (hk:∀y∈keysOf ks,y∈dr) :
  aP P own W0 n nv (.seq (.region id0 ops0 false) (.block i (.loop (.seq (.region id1 ops1 false) (.seq (.cond (.tmp c2) .skip (.exit i)) (.block j (.seq (.region id2 ops2 false) body))))))) (λs R K=>Ds T Γ nv n f ops0.toList ops1.toList ops2.toList j c2 ks dr s K):=by
 intro s R K r h g a w hg;dsimp only at h;unfold Ds at h;split at h
 ·cases h
 rename_i hs hsh;split at h
 rotate_left
 ·cases h
 rename_i mid ha;split at h
 rotate_left
 ·cases h
 rename_i tt l hmid;split at h
 ·cases h
 rename_i mty hmt;obtain⟨hc,h⟩:=aI h;rw[Option.bind_eq_some_iff]at h;obtain⟨v,hv,hK⟩:=h;obtain⟨step,hstep,t0,ht0,hrng⟩:=Gv hv;generalize hkill:aG s dr=kill at *;simp only[Bool.and_eq_true,and_assoc,Bool.not_eq_true',Nat.blt_eq]at hc;obtain⟨c1,c2',c3,c4,c5,c6,c7,c8⟩:=hc;obtain⟨oa,ob,oc,od,oe,e0,e1,e2,⟨a1,a2,a3⟩,⟨b1,b2,b3⟩,⟨n1,n2,n3⟩,⟨x1,x2,x3⟩,⟨y1,y2,y3⟩,⟨l1,l2,l3,l4,l5⟩,m1,m2,m3,m4,m5⟩:=Et hsh
 have notin:∀{x:Nat}{l:List Nat},memN x l=false→x∉l:=λh hm=>by rw[aF.2 hm]at h;cases h
 have c2n:=notin c2';have c3n:=notin c3;have c5n:=notin c5;have hitk:hs.it∉keysOf ks:=λhh=>c5n (hk _ hh)
 have hdrop:∀x∈[hs.b,hs.d1,c2,hs.d3],(Nat.blt x nv&&!(memN x dr))=false:=by
  intro x hx;have:=List.all_eq_true.1 c6 x hx;simp only[Bool.or_eq_true]at this;rcases this with h1 | h1
  ·have:=Nat.le_of_ble_eq_true h1
   rw[show Nat.blt x nv=false by rw[ba,decide_eq_false_iff_not];omega]
   rfl
  ·rw[h1];simp
 have hnkey:∀x∈[hs.b,hs.d1,c2],x∉keysOf ks:=by
  intro x hx;have:=List.all_eq_true.1 c7 x hx
  exact notin (by simpa using this)
 obtain⟨bm,k1,k2,es,k3,k4,k5⟩:=uA hg.mem hmid;obtain⟨bm',cm',k6,hval⟩:=uq (aO (hg.env _ _ ha));rw[k2]at k6;cases k6;obtain⟨ti,hti,hde,_⟩:=zb (k:=mty.1) (v:=mty.2.1) (tt:=mty.2.2) hmt;have hu:=hT.und _ _ hti;rw[hde]at hu
 have hfr:g.ids s.c=none:=hg.dom s.c (by simp only[TS.st,ba,decide_eq_false_iff_not];omega)
 generalize hbit:w.heap.size=bit
 obtain⟨q1,q2⟩:=gz (rm:=[]) (pl:=some (w.heap.size,0,0,[])) (B:=Blk.it (.mapIter (some bm) es.length #[] es.length)) hg.mem hfr (w':=w.alloc (.mapIter (some bm) es.length #[] es.length)) (by
  intro b0 c e b hb;cases e;simp only[nbl,LS]at hb;subst hb
  exact .inl ⟨Nat.le_refl _,by rw[World.size_alloc];omega,hg.frm.fresh _ hg.frm.size⟩) rfl rfl rfl (Nat.le_refl _) (by rw[World.size_alloc];omega) (λb hb _=>heap_alloc_old w _ hb) (λg' hle hi=>⟨_,hi,heap_alloc_new w _⟩)
 rw[hbit]at q1 q2;generalize hg1:g.name s.c (some (bit,0,0,[]))=g1 at q1 q2
 have hid1:g1.ids s.c=some (some (bit,0,0,[])):=by rw[← hg1];exact aT _ _ _
 generalize hN:es.length=N at *
 have hbase0:Good P own W0 n (itB s hs.it (.mapIter (some bm) N #[] N)).st g1 (a.put (some hs.it) (.pointer (some ⟨bit,0,none⟩))) (w.alloc (.mapIter (some bm) N #[] N)):=by
  refine⟨hg.dfr,by simp[Act.put,hg.tsz],?_,q1.sub ?_,?_,λb hb=>q2.le.imm b (hg.ini b hb),hg.frm.stp hg.mem q2,λid p hp=>q2.le.ids id p (hg.nam id p hp)⟩
  ·intro y e hy;simp only[TS.st,itB,ar]at hy;rw[putD];by_cases hdy:hs.it=y
   ·rw[if_pos hdy,if_pos (by rw[hg.tsz];exact l2)]
    rw[hdy,aV]at hy;simp only[if_true,Option.some.injEq]at hy;subst hy;exact .c (.ptr hid1)
   ·rw[if_neg hdy];rw[am hdy]at hy
    exact(hg.env y e (by simpa[TS.st]using hy)).le q2.le
  ·intro id B hB;simp only[TS.st,itB,ar]at hB;simp only[List.map_nil,List.nil_append,updM];exact hB
  ·intro id hid;simp only[TS.st,itB,ba,decide_eq_false_iff_not]at hid
   rw[← hg1,bw _ _ _ (by omega)]
   exact hg.dom id (by simp only[TS.st,ba,decide_eq_false_iff_not];omega)
 have hid2:g1.ids mid=some (some (bm,0,0,[])):=q2.le.ids mid _ k2;have hbase1:=hbase0.fix hid2 hid1;generalize hown:own.fix mid (some (bm,0,0,[])) s.c (some (bit,0,0,[]))=own' at hbase1
 have hnm1:own'.nm mid=some (some (bm,0,0,[])):=by rw[← hown];simp[Ow.fix]
 have hnm2:own'.nm s.c=some (some (bit,0,0,[])):=by
  rw[← hown];simp only[Ow.fix];rw[if_neg (by omega)];simp
 have hunfix:∀{z:St F}{g':G}{a':Act}{w':World},Good P own' W0 n z g' a' w'→Good P own W0 n z g' a' w':=by
  intro z g' a' w' hh;rw[← hown]at hh;refine hh.unfix (λp hp=>?_) (λp hp=>?_)
  ·have:=hg.nam _ _ hp;rw[k2]at this;exact(Option.some.inj this).symm
  ·have:=hg.nam _ _ hp;rw[hfr]at this;cases this
 generalize hw1:w.alloc (.mapIter (some bm) N #[] N)=w1 at *;generalize haB:a.put (some hs.it) (.pointer (some ⟨bit,0,none⟩))=aB at *
 have hbase:∀ob',Good P own' W0 n (itB s hs.it ob').st g1 aB (stO w1 bit ob'):=by
  intro ob'
  refine BX (s:=(itB s hs.it (.mapIter (some bm) N #[] N)).st) hbase1 (id:=s.c) (ob:=.mapIter (some bm) N #[] N) (by simp[TS.st,itB,ar]) hid1 rfl rfl ?_
  intro x B hx;simp only[TS.st,itB,ar]at hx ⊢;by_cases hxc:x=s.c
  ·subst hxc;rw[if_pos rfl];rw[aV]at hx;simpa using hx.symm
  ·rw[if_neg hxc];rw[am (λe=>hxc e.symm)]at hx ⊢;exact hx
 have hpack:∀{ob':Obj}{z:TS F}{t:TLS F ks}{g':G} {a':Act} {w':World},Good P own' W0 n z.st g' a' w'→(∀x,x<nv→x∉dr→x∉z.dE→look z.E x=look ((hs.it,.c (.ptr s.c 0))::s.E) x)→
   (∀id,id<s.c+1→id∉kill→id∉z.dM→look z.M id=look (itB s hs.it ob').M id)→packX Γ (itB s hs.it ob') dr (s.c+1) kill ks z=some t→
   Nm nv s hs.it kill ks t∧∃g'',Good P own' W0 n (merge nv dr kill (itB s hs.it ob') ks t).st g'' a' w':=by
  intro ob' z t g' a' w' hz hE hM hp;obtain⟨p1,p2,p3,p4⟩:=zZ hΓ (hbase ob') hz hE hM hp;exact⟨⟨p2,p3,p4⟩,p1⟩
 obtain⟨hn0,g0,hg0⟩:=hpack (ob':=.mapIter (some bm) N #[] N) hbase1 (λ_ _ _ _=>rfl) (λ_ _ _ _=>rfl) (ht0 _);obtain rfl:ops0 = #[oa,ob]:=Array.toList_inj.1 e0;obtain rfl:ops1 = #[oc,od]:=Array.toList_inj.1 e1;refine wp_seq (wp_region ?_)
 refine sq (o:=oa) (i:=0) (rest:=[1]) rfl a3 (v:=a.eval (.tmp hs.a)) (w':=w) (by simp[execOp,a2]) ?_
 have hmv:(a.put oa.dst (a.eval (.tmp hs.a))).eval (.tmp hs.b) = .map (some bm):=by
  rw[a1,qY (by rw[hg.tsz];exact l1)]
  exact hval
 refine sq (o:=ob) (i:=1) (rest:=[]) rfl b3 (v:=.pointer (some ⟨bit,0,none⟩)) (w':=w1) ?_ ?_
 ·have hrr:=run_range_map (P:=P) w hs.ty mty.1 mty.2.1 bm ⟨es⟩ N hu k3;rw[hbit,hw1]at hrr;simp[execOp,b2,hmv,Sem.run_bind,hrr,Result.andThen]
 simp only[wpOps,Exit.then]
 refine wp_block (vA (λm a w=>∃(t:TLS F ks)(seen:List Nat),rngOk step l m seen t v∧seen.Nodup∧(∀x∈seen,x<N)∧m+seen.length=N∧Nm nv s hs.it kill ks t∧
   ∃g',Good P own' W0 n (merge nv dr kill (itB s hs.it (.mapIter (some bm) N ⟨seen⟩ N)) ks t).st g' a w) ?_ (k:=N) ?_)
 rotate_left
 ·refine⟨t0,[],by rw[k4];exact hrng,List.nodup_nil,by simp,by simp,hn0,g0,HD hg0 ?_ ?_ ?_⟩
  ·rw[a1,b1];exact hg.dfr
  ·rw[a1,b1];simp[Act.put,hg.tsz]
  ·intro x d hx;rw[a1,b1,← haB,putD,putD,putD]
   have hxb:hs.b≠x:=by
    rintro rfl;have hx:look (merge nv dr kill (itB s hs.it (.mapIter (some bm) N #[] N)) ks t0).E hs.b=some d:=hx
    rw[hn0.lookE _ (hnkey _ (by simp)),hdrop _ (by simp)]at hx
    cases hx
   rw[if_neg hxb];simp[Act.put]
 intro m a w hI;obtain⟨t,seen,hr,hnd,hlt,hlen,hnm,g',hg'⟩:=hI
 have hM1:look (merge nv dr kill (itB s hs.it (.mapIter (some bm) N ⟨seen⟩ N)) ks t).M s.c=some (.it (.mapIter (some bm) N ⟨seen⟩ N)):=by
  rw[hnm.lookM _ (by omega) c3n]
  simp[itB,ar]
 have hM2:look (merge nv dr kill (itB s hs.it (.mapIter (some bm) N ⟨seen⟩ N)) ks t).M mid=some (.mp tt l):=by
  rw[hnm.lookM _ (by omega) c2n]
  simp only[itB,ar]
  rw[am (by omega)]
  simpa using hmid
 have hE1:look (merge nv dr kill (itB s hs.it (.mapIter (some bm) N ⟨seen⟩ N)) ks t).E hs.it=some (.c (.ptr s.c 0)):=by rw[hnm.lookE _ hitk,if_pos,ar,aV,if_pos rfl];rw[Nat.blt_eq.mpr c4,c5];rfl
 have hidc:=hg'.nam _ _ hnm2;have hidm:=hg'.nam _ _ hnm1;obtain⟨bb,hb1,hh⟩:=hg'.mem.ok s.c _ hM1;rw[hidc]at hb1;cases hb1;obtain⟨bm2,_,j2,es2,j3,j4,j5⟩:=uA hg'.mem hM2;rw[hidm]at j2;cases j2
 have hptr:a.eval (.tmp hs.it) = .pointer (some ⟨bit,0,none⟩):=by obtain⟨b',c',e1,e2⟩:=bh (hg'.env _ _ hE1);rw[hidc]at e1;cases e1;exact e2
 have hes2:es2.length=N:=by omega
 have hborn:∀(k:Nat)(e:MapEntry),es2[k]? = some e→e.born=k∧k<N:=by
  intro k e hke;have hk2:k<es2.length:=(LQ.1 hke).1
  have hk3:k<l.length:=by omega
  exact⟨(j5 k _ e (LP hk3) hke).1,by omega⟩
 have hold:∀x∈(⟨es2⟩:Array MapEntry).toList,x.born<N:=by intro x hx;obtain⟨k,hk2⟩:=List.getElem?_of_mem hx;obtain⟨p1,p2⟩:=hborn k x hk2;omega
 have hbn:es2.map (·.born)=List.range N:=by
  apply List.ext_getElem?;intro k;rw[List.getElem?_map];by_cases hkN:k<N
  ·rw[LP (by omega),LP (by simpa using hkN)]
   simp only[Option.map_some,List.getElem_range]
   rw[(hborn k _ (LP (by omega))).1]
  ·rw[List.getElem?_eq_none (by omega),List.getElem?_eq_none (by simp;omega)]
   rfl
 have hsz0:a.tmps.size=n:=hg'.tsz;rcases run_next_at (P:=P) w oc.type bit bm N N ⟨seen⟩ ⟨es2⟩ es2.length hh j3 hold (Nat.le_refl _)with⟨z1,z2⟩ | ⟨e,he,w2,hw2,hrun⟩
 ·refine wp_seq (wp_region ?_)
  refine sq (o:=oc) (i:=0) (rest:=[1]) rfl n3 (v:=.tuple #[.bool false]) (w':=w) (by simp[execOp,n2,hptr,Sem.run_bind,z2,Result.andThen]) ?_
  have hex:(a.put oc.dst (.tuple #[.bool false])).eval (.tmp hs.d1) = .tuple #[.bool false]:=by
   rw[n1,qY (by rw[hsz0];exact l3)]
  refine sq (o:=od) (i:=1) (rest:=[]) rfl x3 (v:=.bool false) (w':=w) (by simp[execOp,x2,hex,Instr.extract]) ?_
  simp only[wpOps,Exit.then]
  refine wp_seq (wp_cond_split (t:=false) ?_ (λe=>by cases e) (λ_=>wp_exit ?_))
  ·rw[x1,qY (by rw[n1];simpa[Act.put,hsz0]using l4)]
  simp only[Exit.then,Exit.inBlock,if_true]
  have hm0:m=0:=by
   have hsub:∀k∈List.range N,k∈seen:=by
    intro k hkN;rw[List.mem_range]at hkN
    have hk2:k<es2.length:=by omega
    have h0:leftOf ⟨es2⟩ ⟨seen⟩ = #[]:=Array.eq_empty_of_size_eq_zero z1;unfold leftOf at h0;rw[Array.filter_eq_empty_iff]at h0
    have:=h0 es2[k] (by simp)
    rw[(hborn k _ (LP hk2)).1]at this;simpa using this
   have:=wK List.nodup_range hsub;simp at this;omega
  subst hm0;have htv:t=v:=hr;subst htv
  have hcong:unpS ((hs.it,.c .any)::s.E) ks t (s.c+1)=unpS ((hs.it,.c (.ptr s.c 0))::s.E) ks t (s.c+1):=AA (λy hy=>by
   rw[ar,ar,am (λ(e:hs.it=y)=>hitk (by rw[e];exact hy))];rfl)
  refine⟨0,_,g',rfl,hK,?_,?_⟩
  ·refine⟨?_,?_,?_,λx hx=>?_,λx hx=>?_⟩
   ·intro x hx hn;have hn:x∉dr++hs.it::s.dE:=hn;simp only[List.mem_append,List.mem_cons,not_or]at hn;show look ((unpS ((hs.it,.c .any)::s.E) ks t (s.c+1)).1++((hs.it,.c .any)::s.E).filter λp=>Nat.blt p.1 nv&&!(memN p.1 dr)) x=_;rw[hcong,aS,hnm.e x (λh=>hn.1 (hk x h)),Option.none_or,aD (λy=>Nat.blt y nv&&!(memN y dr)),if_pos,ar,am (λe=>hn.2.1 e.symm)]
    ·rfl
    ·rw[Nat.blt_eq.mpr hx]
     cases hm:memN x dr with
     | true=>exact absurd (aF.1 hm) hn.1
     | false=>rfl
   ·intro id hid hn;have hn:id∉kill++s.dM:=hn;simp only[List.mem_append,not_or]at hn;show look ((unpS ((hs.it,.c .any)::s.E) ks t (s.c+1)).2.1++s.M.filter λp=>!(memN p.1 kill)) id=_;rw[hcong,aS,xW (Nat.lt_succ_of_lt hid) hn.1 hnm.m,Option.none_or,aD (λy=>!(memN y kill)),if_pos]
    cases hm:memN id kill with
    | true=>exact absurd (aF.1 hm) hn.1
    | false=>rfl
   ·show s.c≤(unpS ((hs.it,.c .any)::s.E) ks t (s.c+1)).2.2;rw[hcong];exact Nat.le_trans (Nat.le_succ _) hnm.c
   ·show x∈dr++hs.it::s.dE;simp[hx]
   ·show x∈kill++s.dM;simp[hx]
  ·refine Ip (hunfix hg') ?_ ?_ ?_ ?_ ?_
   ·rw[n1,x1];exact hg'.dfr
   ·rw[n1,x1];simp[Act.put,hsz0]
   ·intro x d hx;have hx:look ((unpS ((hs.it,.c .any)::s.E) ks t (s.c+1)).1++((hs.it,.c .any)::s.E).filter λp=>Nat.blt p.1 nv&&!(memN p.1 dr)) x=some d:=hx;rw[hcong,aS,aD (λy=>Nat.blt y nv&&!(memN y dr))]at hx;by_cases hxi:x=hs.it
    ·subst hxi
     rw[hnm.e _ hitk,Option.none_or,if_pos (by rw[Nat.blt_eq.mpr c4,c5];rfl),ar,aV,if_pos rfl]at hx
     cases hx;exact .inl rfl
    ·right;rw[ar,am (λe=>hxi e.symm)]at hx
     have hne:∀y∈[hs.b,hs.d1,c2],y≠x:=by
      rintro y hy rfl
      rw[hnm.e _ (hnkey _ hy),Option.none_or,hdrop _ (by simp only[List.mem_cons,List.not_mem_nil,or_false]at hy ⊢;rcases hy with h | h | h<;>simp[h])]at hx
      cases hx
     refine⟨?_,?_⟩
     ·show look ((unpS ((hs.it,.c (.ptr s.c 0))::s.E) ks t (s.c+1)).1++((hs.it,.c (.ptr s.c 0))::s.E).filter λp=>Nat.blt p.1 nv&&!(memN p.1 dr)) x=some d;rw[aS,aD (λy=>Nat.blt y nv&&!(memN y dr)),ar,am (λe=>hxi e.symm)];exact hx
     ·rw[n1,x1,putD,putD,if_neg (hne c2 (by simp)),if_neg (hne hs.d1 (by simp))]
   ·intro id B hB;have hB:look ((unpS ((hs.it,.c .any)::s.E) ks t (s.c+1)).2.1++s.M.filter λp=>!(memN p.1 kill)) id=some B:=hB;show look ((unpS ((hs.it,.c (.ptr s.c 0))::s.E) ks t (s.c+1)).2.1++((s.c,.it (.mapIter (some bm) N ⟨seen⟩ N))::s.M).filter λp=>!(memN p.1 kill)) id=some B;rw[hcong,aS,aD (λy=>!(memN y kill))]at hB;rw[aS,aD (λy=>!(memN y kill)),ar];by_cases hic:id=s.c
    ·subst hic;rw[xW (Nat.lt_succ_self _) c3n hnm.m,Option.none_or]at hB;split at hB
     ·exact absurd hfr (hg.mem.ok _ B hB).named
     ·cases hB
    ·rw[am (λe=>hic e.symm)];exact hB
   ·intro id hid;have hid:Nat.blt id (unpS ((hs.it,.c .any)::s.E) ks t (s.c+1)).2.2=false:=hid;rw[hcong]at hid;exact hid
 ·have he':e∈es2∧e.born∉seen:=by
   unfold leftOf at he;simpa using he
  obtain⟨k,hke⟩:=List.getElem?_of_mem he'.1;obtain⟨hbk,hkN⟩:=hborn k e hke;have hkn:k∉seen:=hbk▸he'.2
  have hkl:k<l.length:=by omega
  cases m with
  | zero=>
   have:=HG (N:=N) (l:=k::seen) (List.nodup_cons.2 ⟨hkn,hnd⟩) (λx hx=>by
    rcases List.mem_cons.1 hx with rfl | hx
    ·exact hkN
    ·exact hlt x hx)
   simp at this;omega
  | succ m=>
   obtain⟨t',hs1,hs2⟩:=hr k l[k] hkn (LP hkl);obtain⟨_,kd0,vds0,r1,r2,r3⟩:=j5 k l[k] e (LP hkl) hke
   have hob:Obj.mapIter (some bm) N ((⟨seen⟩:Array Nat).push e.born) es2.length = .mapIter (some bm) N ⟨seen++[k]⟩ N:=by rw[hbk,hes2];simp
   rw[hob]at hrun;generalize hob':Obj.mapIter (some bm) N ⟨seen++[k]⟩ N=ob' at hrun;have h1:=hs1 ob';rw[hstep]at h1;simp only[r1]at h1;split at h1
   ·rename_i kd _ d hkd hd;cases hkd
    have hw2g:Good P own' W0 n (merge nv dr kill (itB s hs.it (.mapIter (some bm) N ⟨seen⟩ N)) ks t).st g' a w2:=by
     rcases hw2 with rfl | rfl
     ·exact hg'
     ·exact wY hg'
    have hheap:w2.heap=w.heap:=by rcases hw2 with rfl | rfl<;>rfl
    have hg3:Good P own' W0 n (merge nv dr kill (itB s hs.it ob') ks t).st g' a (stO w2 bit ob'):=by
     refine BX hw2g (id:=s.c) hM1 hidc rfl rfl ?_;intro x B hx;by_cases hxc:x=s.c
     ·subst hxc;rw[if_pos rfl];have hx:look (merge nv dr kill (itB s hs.it ob') ks t).M s.c=some B:=hx
      rw[hnm.lookM _ (by omega) c3n]at hx
      simpa[itB,ar]using hx.symm
     ·rw[if_neg hxc];have hx:look ((unpS ((hs.it,.c (.ptr s.c 0))::s.E) ks t (s.c+1)).2.1++((s.c,.it ob')::s.M).filter λp=>!(memN p.1 kill)) x=some B:=hx;show look ((unpS ((hs.it,.c (.ptr s.c 0))::s.E) ks t (s.c+1)).2.1++((s.c,.it (.mapIter (some bm) N ⟨seen⟩ N))::s.M).filter λp=>!(memN p.1 kill)) x=some B;rw[aS,aD (λy=>!(memN y kill)),ar,am (λe=>hxc e.symm)]at hx ⊢;exact hx
    have hne:bm≠bit:=by rintro rfl;rw[hh]at j3;cases j3
    have hbm3:(stO w2 bit ob').heap[bm]? = some (.map ⟨es2⟩ es2.length):=by rw[wW _ _ _ hne,hheap];exact j3
    have hbit3:(stO w2 bit ob').heap[bit]? = some ob':=by refine CW _ _ _ ?_;rw[hheap];exact(Array.getElem?_eq_some_iff.1 hh).1
    have hrep:RepD P g' (stO w2 bit ob') d e.val:=by
     have:=zL (P:=P) (g:=g') (w:=w) hd r1 r3
     have hle:Le g' w g' (stO w2 bit ob'):=by
      obtain⟨_,kk⟩:=uY (ob:=ob') (B':=.it ob') hw2g.mem hM1 rfl (G.blk_main hidc) (λhh _=>⟨bit,hidc,hh⟩)
      exact⟨kk.le.ids,kk.le.imm,λb hb=>(kk.le.heap b hb).trans (by rw[hheap]),kk.le.len,λb hb=>(kk.le.heapL b hb).trans (by rw[hheap])⟩
     exact this.le hle
    have hrk:RepI (stO w2 bit ob') g'.imm kd0 e.key:=by
     obtain⟨_,kk⟩:=uY (ob:=ob') (B':=.it ob') hw2g.mem hM1 rfl (G.blk_main hidc) (λhh _=>⟨bit,hidc,hh⟩)
     exact r2.mono (λ_ h=>h) (λb hb=>(kk.le.heap b hb).trans (by rw[hheap]))
    have hr3:RepD P g' (stO w2 bit ob') (.tup [.c (.im (.b true)),.c (.im kd0),d]) (.tuple #[.bool true,e.key,e.val]):=by
     refine .tup rfl λj0 d0 x0 a0 b0=>?_
     match j0 with
     | 0=>cases a0;cases b0;exact .c (.im (.b _))
     | 1=>cases a0;cases b0;exact .c (.im hrk)
     | 2=>cases a0;cases b0;exact hrep
     | j0+3=>simp at a0
    have hr2:RepD P g' (stO w2 bit ob') (.tup [.c (.im kd0),d]) (.tuple #[e.key,e.val]):=by
     refine .tup rfl λj0 d0 x0 a0 b0=>?_
     match j0 with
     | 0=>cases a0;cases b0;exact .c (.im hrk)
     | 1=>cases a0;cases b0;exact hrep
     | j0+2=>simp at a0
    have hg4:=D9 hg3 l3 hr3 [] [];have hg5:=D9 hg4 l4 (v:=.c (.im (.b true))) (x:=.bool true) (.c (.im (.b _))) [] [];have hg6:=D9 hg5 l5 hr2 [] [];refine wp_seq (wp_region ?_)
    refine sq (o:=oc) (i:=0) (rest:=[1]) rfl n3 (v:=.tuple #[.bool true,e.key,e.val]) (w':=stO w2 bit ob') (by simp[execOp,n2,hptr,Sem.run_bind,hrun,Result.andThen];rfl) ?_
    have hex:(a.put oc.dst (.tuple #[.bool true,e.key,e.val])).eval (.tmp hs.d1) = .tuple #[.bool true,e.key,e.val]:=by
     rw[n1,qY (by rw[hsz0];exact l3)]
    refine sq (o:=od) (i:=1) (rest:=[]) rfl x3 (v:=.bool true) (w':=stO w2 bit ob') (by simp[execOp,x2,hex,Instr.extract]) ?_
    simp only[wpOps,Exit.then]
    refine wp_seq (wp_cond_split (t:=true) ?_ (λ_=>wp_skip ?_) (λe=>by cases e))
    ·rw[x1,qY (by rw[n1];simpa[Act.put,hsz0]using l4)]
    simp only[Exit.then];obtain⟨z,tr,h2,t1,t2,t3,t4,t5⟩:=qX hT hΓ h1;obtain⟨E',h3,h4⟩:=lI h2
    have hsz:ops2.size=tr.length+1:=by rw[← Array.length_toList,e2,← t1];simp
    refine wp_block (wp_seq (wp_region ?_));rw[hsz,List.range_eq_range',List.range'_succ]
    have hitv:((a.put oc.dst (.tuple #[.bool true,e.key,e.val])).put od.dst (.bool true)).eval (.tmp hs.it) = .pointer (some ⟨bit,0,none⟩):=by rw[n1,x1];show(Array.getD _ _ _)=_;rw[putD,putD,if_neg (λe=>m3 e.symm),if_neg (λe=>m2 e.symm)];exact hptr
    refine sq (o:=oe) (i:=0) (rest:=List.range' (0+1) tr.length) (by rw[← Array.getElem?_toList,e2];rfl) y3 (v:=.tuple #[e.key,e.val]) (w':=stO w2 bit ob') ?_ ?_
    ·have:=run_entry_at (P:=P) (stO w2 bit ob') bit bm N ⟨seen⟩ ⟨es2⟩ es2.length e (by rw[hbit3,← hob',← hob]) hbm3 (by simpa using he'.1) (by rw[hbn];exact List.nodup_range)
     simp[execOp,y2,hitv,Sem.run_bind,this,Result.andThen]
    rw[n1,x1,y1];refine pe (opsA:=ops2) rfl tr (0+1) _ z.st (λj0=>?_) t2 t3 hg6 ?_
    ·rw[← Array.getElem?_toList,e2,← List.getElem?_map,t1,Nat.zero_add,Nat.add_comm,List.getElem?_cons_succ]
    intro g5 a5 w5 hg5';simp only[Exit.then];refine wp_mono (hf own' _ _ t' h3 g5 a5 w5 (hg5'.sub ?_ (λ_ _ h=>h) (λ_ h=>h))) ?_
    ·intro x d0 hx;simp only[TS.st]at hx ⊢;rw[h4]at hx;split at hx
     ·exact hx
     ·cases hx
    rintro ee a6 w6 ⟨i',s',g6,rfl,h5,h6,h7⟩;obtain⟨hcond,h5⟩:=aI h5
    have hne2:∀{x:Nat},x<nv→x∉dr→∀y∈[hs.b,hs.d1,c2,hs.d3],y≠x:=by rintro x hx hxd y hy rfl;have:=hdrop _ hy;rw[Nat.blt_eq.mpr hx]at this;simp only[Bool.true_and,Bool.not_eq_false']at this;exact hxd (aF.1 this)
    have hnext:∃m',m'<m+1∧∃(t:TLS F ks)(seen:List Nat),rngOk step l m' seen t v∧seen.Nodup∧(∀x∈seen,x<N)∧m'+seen.length=N∧Nm nv s hs.it kill ks t∧
      ∃g',Good P own' W0 n (merge nv dr kill (itB s hs.it (.mapIter (some bm) N ⟨seen⟩ N)) ks t).st g' a6 w6:=by
     have hEE:∀x,x<nv→x∉dr→x∉s'.dE→look s'.E x=look ((hs.it,.c (.ptr s.c 0))::s.E) x:=by
      intro x hx hxd hn;have q1:=h6.e x hx hn;have q2:=t5.e x hx (λhh=>hn (h6.dE x hh));rw[q1];show look E' x=_
      rw[h4,if_pos (by simp[memN,Nat.blt_eq.mpr hx]),q2]
      have hy:=hne2 hx hxd;simp only[DB,ar]
      rw[am (hy _ (by simp)),am (hy _ (by simp)),am (hy _ (by simp))]
      simp only[Bool.false_eq_true,if_false];rw[hnm.lookE _ (λh=>hxd (hk x h)),if_pos]
      ·rw[ar]
      ·rw[Nat.blt_eq.mpr hx]
       cases hm:memN x dr with
       | true=>exact absurd (aF.1 hm) hxd
       | false=>rfl
     have hMM:∀id,id<s.c+1→id∉kill→id∉s'.dM→look s'.M id=look (itB s hs.it ob').M id:=by intro id hid hik hn;have hcm:s.c+1≤(DB nv s dr kill ks hs c2 ob' t kd0 d).c:=hnm.c;have q1:=h6.m id (Nat.lt_of_lt_of_le hid (Nat.le_trans hcm t5.c)) hn;have q2:=t5.m id (Nat.lt_of_lt_of_le hid hcm) (λhh=>hn (h6.dM id hh));rw[q1];show look z.M id=_;rw[q2];exact hnm.lookM (dr:=dr) _ hid hik
     obtain⟨o1,g7,o2⟩:=hpack (ob':=ob') h7 hEE hMM h5
     ·refine⟨m,Nat.lt_succ_self m,t',seen++[k],hs2,?_,?_,?_,o1,g7,by rw[hob'];exact o2⟩
      ·rw[List.nodup_append]
       exact⟨hnd,by simp,λx hx y hy=>by rw[LS]at hy;subst hy;exactλe=>hkn (e▸hx)⟩
      ·intro x hx;rcases List.mem_append.1 hx with hx | hx
       ·exact hlt x hx
       ·rw[LS]at hx;subst hx;exact hkN
      ·simp;omega
    rcases(Bool.or_eq_true _ _).mp hcond with hc0 | hc0
    ·have:=Nat.eq_of_beq_eq_true hc0;subst this;exact hnext
    ·have:=Nat.eq_of_beq_eq_true hc0;subst this;simp only[exC,Exit.then,Exit.inBlock,if_true];exact hnext
   ·cases h1
theorem FL{c:Code}{q:RgC}(h:Dq c=some q):∃id0 id1 id2,c = .seq (.region id0 q.ops0 false) (.block q.i (.loop (.seq (.region id1 q.ops1 false) (.seq (.cond (.tmp q.c2) .skip (.exit q.i')) (.block q.j (.seq (.region id2 q.ops2 false) q.body)))))):=by
 unfold Dq at h;split at h
 ·cases h;exact⟨_,_,_,rfl⟩
 ·cases h
theorem Ik(hT:TblOk P T)(hΓ : CtxOk P Γ)(hmix:P.follows .mixedOrders=true):∀(h:Hint),(∀(own:Ow)(c:Code),aP P own W0 n nv c (tRun T Γ nv n h c))∧(h.isL=true→∀(own:Ow)(x:Code),Dj P own W0 n nv x (tRun T Γ nv n h (.loop x))):=by
 intro h
 induction h with
 | z=>
  refine⟨?_,λh=>by cases h⟩
  intro own c s R K r hr;exact tAuto_ok hT hΓ hmix c s K r (by simp only[tRun]at hr;exact hr)
 | r kp=>
  refine⟨?_,λh=>by cases h⟩
  intro own c s R K r hr
  cases c with
  | region id ops draw=>exact GV (Ca (id:=id) (kp:=kp) hT (wT hΓ) hmix) kp s K r (by simp only[tRun]at hr;exact hr)
  | _=>simp[tRun]at hr
 | s h k ih ik=>
  refine⟨?_,λh=>by cases h⟩
  intro own c s R K r hr
  cases c with
  | seq x y=>exact F2 (ih.1 own x) (ik.1 own y) s K r (by simp only[tRun]at hr;exact hr)
  | _=>simp[tRun]at hr
 | c h k ih ik=>
  refine⟨?_,λh=>by cases h⟩
  intro own c s R K r hr
  cases c with
  | cond t x y=>
   cases t with
   | tmp t=>exact EU (ih.1 own x) (ik.1 own y) s K r (by simp only[tRun]at hr;exact hr)
   | const v=>cases v with
    | bool b=>exact DO (ih.1 own x) (ik.1 own y) s K r (by simp only[tRun]at hr;exact hr)
    | _=>simp[tRun]at hr
   | _=>simp[tRun]at hr
  | _=>simp[tRun]at hr
 | b h ih=>
  refine⟨?_,λh=>by cases h⟩
  intro own c s R K r hr
  cases c with
  | block i x=>exact CS (ih.1 own x) s K r (by simp only[tRun]at hr;exact hr)
  | scope x=>exact Dp (ih.1 own x) s K r (by simp only[tRun]at hr;exact hr)
  | _=>simp[tRun]at hr
 | l ks dr xs h ih=>
  refine⟨?_,λ_ own x s R K r hr=>DP (dr:=dr++keysOf ks++keysX xs) (ks:=ks) (xs:=xs) hΓ (ih.1 own x) (λy hy=>by simp[hy]) (λy hy=>by simp[hy]) s K r (by simp only[tRun]at hr;exact hr)⟩
  intro own c s R K r hr
  cases c with
  | loop x=>exact I2 (dr:=dr++keysOf ks++keysX xs) (ks:=ks) (xs:=xs) hΓ (ih.1 own x) (λy hy=>by simp[hy]) (λy hy=>by simp[hy]) s K r (by simp only[tRun]at hr;exact hr)
  | _=>simp[tRun]at hr
 | p h k ih ik=>
  refine⟨?_,λh=>by cases h⟩
  intro own c s R K r hr
  cases c with
  | loop x=>
   simp only[tRun]at hr
   cases hk:k.isL with
   | false=>rw[hk]at hr;cases hr
   | true=>rw[hk]at hr;exact JE (ih.1 own x) (ik.2 hk own x) s K r hr
  | _=>simp[tRun]at hr
 | u k h ih=>
  refine⟨?_,λh=>by cases h⟩
  intro own c s R K r hr
  cases c with
  | loop x=>exact KY (ih.1 own x) k s K r (by simp only[tRun]at hr;exact hr)
  | _=>simp[tRun]at hr
 | j dr xs h ih=>
  refine⟨?_,λh=>by cases h⟩
  intro own c s R K r hr
  exact I_ (dr:=dr++keysX xs) (xs:=xs) hΓ (ih.1 own c) (λy hy=>by simp[hy]) s K r (by simp only[tRun]at hr;exact hr)
 | m x ix ex dr h ih=>
  refine⟨?_,λh=>by cases h⟩
  intro own c s R K r hr
  cases c with
  | loop y=>exact Ht (x:=x) (ix:=ix) (ex:=ex) (dr:=dr) (ih.1 own y) s K r (by simp only[tRun]at hr;exact hr)
  | _=>simp[tRun]at hr
 | g ks dr h ih=>
  refine⟨?_,λh=>by cases h⟩
  intro own c s R K r hr;simp only[tRun]at hr;split at hr
  ·cases hr
  rename_i q hq;obtain⟨id0,id1,id2,rfl⟩:=FL hq;obtain⟨hi,hr⟩:=aI hr;have:=Nat.eq_of_beq_eq_true hi;rw[this]
  exact II (dr:=dr++keysOf ks) hT hΓ (λown'=>ih.1 own' _) (λy hy=>by simp[hy]) s K r hr
theorem Ja(hT:TblOk P T)(hΓ : CtxOk P Γ)(hmix:P.follows .mixedOrders=true)(h:Hint)(c:Code):aP P own W0 n nv c (tRun T Γ nv n h c):=(Ik hT hΓ hmix h).1 own c
end
set_option linter.unusedVariables false
set_option linter.unusedSimpArgs false
section
variable{F:Fam}{P:Program}{T:TypeId→Option (TI F)}{Γ : Ctx F}{nv n:Nat}{own:Ow}{W0:World}{g:G}{a:Act}{w:World}{m mm:Nat→Option (Blk F)}
def ud(tmps:Array Value):ResultVar→Sem Value
 | .tmp t=>Pure.pure (tmps.getD t undef)
 | .cell a t=>do loadVar t (← asAddr (tmps.getD a undef))
theorem Jj(hT:TblOk P T){s:TS F}(hg:Good P own W0 n s.st g a w){r:ResultVar}{d:Dat F}(h:resV T s r=some d) :
  ∃v,(ud a.tmps r).run P w = .ok v w∧RepD P g w d v:=by
 cases r with
 | tmp t=>exact⟨_,rfl,hg.env t d h⟩
 | cell x ty=>
  simp only[resV]at h;split at h
  ·cases h
  ·rename_i ti hty;split at h
   ·rename_i id off hx;split at h
    ·rename_i cs hbox;obtain⟨b,c,hi,e⟩:=bh (hg.env x _ hx);obtain⟨v,hrun,hrep⟩:=cD (P:=P) (g:=g) (w:=w) hT hty h (b:=b) (q:=0) (BY hg.mem hbox hi);rw[Nat.zero_add]at hrun;refine⟨v,?_,hrep⟩;simp only[ud,e,asAddr,Sem.run_bind,Sem.run_pure,Result.andThen_ok,hrun]
    ·cases h
   ·cases h
theorem y9(hT:TblOk P T){s:TS F}(hg:Good P own W0 n s.st g a w):∀{rs:List ResultVar}{ds:List (Dat F)} (_:resVs T s rs=some ds),
  ∃vs:List Value,(rs.mapM (ud a.tmps)).run P w = .ok vs w∧RepDs P g w ds vs
 | [],ds,h=>by
  simp only[resVs,Option.some.injEq]at h;subst h
  exact⟨[],by simp,rfl,by simp⟩
 | r::rs,ds,h=>by
  simp only[resVs]at h;split at h
  ·cases h
  ·rename_i d hd;split at h
   ·cases h
   ·rename_i l hl;cases h;obtain⟨v,hv,hr⟩:=Jj hT hg hd;obtain⟨vs,hvs,hrs⟩:=y9 hT hg hl
    exact⟨v::vs,by simp only[List.mapM_cons,Sem.run_bind,hv,Result.andThen_ok,hvs,Sem.run_pure],aL.2 ⟨hr,hrs⟩⟩
theorem nM{os os':List (Option Nat)}:plBlks ((os++os').map (plOf g))=plBlks (os.map (plOf g))++plBlks (os'.map (plOf g)):=by rw[List.map_append,aw]
theorem xM(hΓ : CtxOk P Γ)(hm:MemOk own g w m)(hle:MLe mm m):∀{ks:List Kd}{ds:List (Dat F)} {bx:List Nat} {p:Pk (TL F ks)},bS Γ mm ks ds bx=some p→∀{imm:Nat→Prop},Frz g p.fz imm→∀{vs:List Value}{bxs:List Pl},RepDs P g w ds vs→
  bx.map g.ids=bxs.map some→(ks.filter Kd.isBox).length=bx.length→
  ∃pls,bC P w imm ks p.x vs bxs pls∧(plBlks (p.os.map (plOf g))).Perm (plBlks bxs++plBlks pls)∧Fzl mm p.fz∧(∀id,some id∈p.os→∃B,mm id=some B∧B.owned=true):=by
 have one:∀{k:Kd}{d:Dat F}{p:Pk (k.El F)},packK Γ mm k d=some p→k.isBox=false→∀{imm:Nat→Prop},Frz g p.fz imm→∀{v:Value},RepD P g w d v→
   Held P w imm k p.x v (p.os.map (plOf g)) []∧Fzl mm p.fz∧(∀id,some id∈p.os→∃B,mm id=some B∧B.owned=true):=by
  intro k d p h hb imm hi v hr;obtain⟨bxs,h1,h2,h3,h4,h5⟩:=u4 hΓ hm hle h hi hr
  have:bxs = []:=by
   cases k with
   | box=>cases hb
   | v t ow=>exact h1.2
   | rp t=>exact h1.2.1
   | fn ks r=>exact h1.2.1
   | rpp t=>exact h1.2.1
   | pk k t=>exact h1.2.1
   | ln t=>exact h1.2.1
   | nb t ow=>obtain⟨_,_,h,_⟩:=h1;exact h
   | row t arr=>cases hb
  subst this;exact⟨h1,h3,h4⟩
 have box:∀{t:Ty}{ow:List Nat}{b:Nat}{p:Pk (ET F t)},lB mm t ow (.c (.ptr b 0))=some p→∀{imm:Nat→Prop},Frz g p.fz imm→∀{q':Pl},g.ids b=some q'→
   ∃(q:Nat×Nat×Nat)(pls:List Pl),q'=some (pt3 q)∧HeldB w imm t ow p.x q.1 pls∧plBlks (p.os.map (plOf g))=q.1::plBlks pls∧Fzl mm p.fz∧(∀id,some id∈p.os→∃B,mm id=some B∧B.owned=true):=by
  intro t ow b p h imm hi q' hq'
  obtain⟨q,hq⟩:∃q,g.ids b=some (some q):=by
   simp only[lB]at h;split at h
   ·rename_i cs hbox;obtain⟨b',c',arr,e,k1,_⟩:=hm.ok b _ (hle _ _ hbox);exact⟨_,k1⟩
   ·cases h
  rw[hq]at hq';cases hq';obtain⟨id,bx,os,h1,h2,h3,h4,h5,h6,h7,h8⟩:=my hm hle h hi (P:=P) (v:=.pointer (some ⟨q.1,0,none⟩)) (.c (.ptr hq));cases h3;rw[hq]at h4;cases h4;refine⟨bx,os.map (plOf g),rfl,h6,?_,Fzl.of_rows h7,h8⟩;rw[h1];simp[plOf,hq,plBlks,nbl]
 intro ks
 induction ks with
 | nil=>
  intro ds bx p h imm hi vs bxs hr hb hc
  cases ds with
  | cons d ds=>cases bx<;>simp[bS]at h
  | nil=>
   cases bx with
   | cons b bx=>simp[bS]at h
   | nil=>
    simp only[bS,Option.some.injEq]at h;subst h;have h1:=d5 hr
    have h2:bxs = []:=by simpa using hb.symm
    subst h1 h2
    exact⟨[],⟨rfl,rfl,rfl⟩,by simp[plBlks],λid hid=>by simp at hid,by simp⟩
 | cons k ks ih=>
  intro ds bx p h imm hi vs bxs hr hb hc
  cases hkb:k.isBox with
  | true=>
   cases k with
   | v=>cases hkb
   | rp=>cases hkb
   | fn=>cases hkb
   | rpp=>cases hkb
   | pk=>cases hkb
   | ln=>cases hkb
   | nb=>cases hkb
   | row t arr=>
    cases bx with
    | nil=>simp[List.filter_cons,Kd.isBox]at hc
    | cons b bx=>
     obtain⟨q,bxs',rfl,hq,hb'⟩:=iq hb.symm
     have row:∀{p:Pk (List (ET F t))},tZ mm t b=some p→OwnX w imm t p.x q∧p.os = [some b]∧Fzl mm p.fz∧(∀id,some id∈p.os→∃B,mm id=some B∧B.owned=true):=by
      intro p hp;obtain⟨h1,h2,h3,h4,l,h5⟩:=yG hm hle hp
      have e:plOf g (some b)=q:=by simp[plOf,← hq]
      rw[e]at h4
      refine⟨h4.le hi.imm,h1,λid hid=>by rw[h3]at hid;simp at hid,?_⟩
      intro id hid;rw[h1]at hid;simp only[LS,Option.some.injEq]at hid;subst hid;exact⟨_,h5,eY⟩
     have e1:plBlks [plOf g (some b)]=plBlks [q]:=by simp[plOf,← hq]
     cases ks with
     | nil=>
      have hbx:bx = []:=by apply List.eq_nil_of_length_eq_zero;simpa[List.filter_cons,Kd.isBox]using hc.symm
      subst hbx
      have:bxs' = []:=by simpa using hb'
      subst this
      cases ds with
      | cons d ds=>simp[bS]at h
      | nil=>
       simp only[bS]at h;obtain⟨h1,h2,h3,h4⟩:=row h;have hv:=d5 hr;subst hv
       exact⟨[],⟨q,rfl,rfl,h1,rfl⟩,by rw[h2];simp only[List.map_cons,List.map_nil];rw[e1];simp[plBlks],h3,h4⟩
     | cons l ks=>
      simp only[bS]at h;split at h
      ·cases h
      ·rename_i p1 hp1;split at h
       ·cases h
       ·rename_i p2 hp2;cases h;obtain⟨h1,h2,h3,h4⟩:=row hp1
        obtain⟨pls',k1,k2,k3,k4⟩:=ih hp2 (hi.sub (λid hid=>by simp[hid])) hr hb'.symm (by simpa[List.filter_cons,Kd.isBox]using hc)
        refine⟨pls',⟨q,bxs',rfl,h1,k1⟩,?_,h3.append k3,?_⟩
        ·show(plBlks ((p1.os++p2.os).map (plOf g))).Perm _;rw[nM,h2];simp only[List.map_cons,List.map_nil]
         rw[e1,show(q::bxs') = [q]++bxs' from rfl,aw,List.append_assoc]
         exact List.Perm.append_left _ k2
        ·intro id hid;rcases List.mem_append.1 hid with hid | hid
         ·exact h4 id hid
         ·exact k4 id hid
   | box t ow=>
    cases bx with
    | nil=>simp[List.filter_cons,Kd.isBox]at hc
    | cons b bx=>
     obtain⟨q,bxs',rfl,hq,hb'⟩:=iq hb.symm
     cases ks with
     | nil=>
      have hbx:bx = []:=by apply List.eq_nil_of_length_eq_zero;simpa[List.filter_cons,Kd.isBox]using hc.symm
      subst hbx
      have:bxs' = []:=by simpa using hb'
      subst this
      cases ds with
      | cons d ds=>simp[bS]at h
      | nil=>
       simp only[bS]at h;obtain⟨q,pls,rfl,h1,h2,h3,h4⟩:=box h hi hq.symm;have hv:=d5 hr;subst hv
       exact⟨pls,⟨q,rfl,rfl,h1⟩,by rw[h2];exact .refl _,h3,h4⟩
     | cons l ks=>
      simp only[bS]at h;split at h
      ·cases h
      ·rename_i p1 hp1;split at h
       ·cases h
       ·rename_i p2 hp2;cases h
        obtain⟨q,pls,rfl,h1,h2,h3,h4⟩:=box hp1 (hi.sub (λid hid=>by simp[hid])) hq.symm
        obtain⟨pls',k1,k2,k3,k4⟩:=ih hp2 (hi.sub (λid hid=>by simp[hid])) hr hb'.symm (by simpa[List.filter_cons,Kd.isBox]using hc)
        refine⟨pls++pls',⟨q,bxs',pls,pls',rfl,rfl,h1,k1⟩,?_,h3.append k3,?_⟩
        ·show(plBlks ((p1.os++p2.os).map (plOf g))).Perm _;rw[nM,h2,aw];show(q.1::plBlks pls++_).Perm (q.1::plBlks bxs'++_);rw[List.cons_append,List.cons_append];refine List.Perm.cons _ ?_;refine(List.Perm.append_left _ k2).trans ?_;rw[← List.append_assoc,← List.append_assoc];exact List.Perm.append_right _ List.perm_append_comm
        ·intro id hid;rcases List.mem_append.1 hid with hid | hid
         ·exact h4 id hid
         ·exact k4 id hid
  | false=>
   have hc':(ks.filter Kd.isBox).length=bx.length:=by rw[List.filter_cons_of_neg (by simp[hkb])]at hc;exact hc
   cases ks with
   | nil=>
    have hbx:bx = []:=by apply List.eq_nil_of_length_eq_zero;simpa using hc'.symm
    subst hbx
    have:bxs = []:=by simpa using hb.symm
    subst this
    match ds,h,hr with
    | [],h,hr=>cases k<;>first | (cases hkb;done) | simp[bS]at h
    | [d],h,hr=>
     have h':packK Γ mm k d=some p:=by cases k<;>first | (cases hkb;done) | exact h
     obtain⟨v,vs',rfl,h1,h2⟩:=gO hr;have hv:=d5 h2;subst hv;obtain⟨k1,k2,k3⟩:=one h' hkb hi h1
     refine⟨p.os.map (plOf g),?_,by simp[plBlks],k2,k3⟩
     cases k<;>first | (cases hkb;done) | exact⟨v,rfl,rfl,k1⟩
    | d::e::ds,h,hr=>cases k<;>first | (cases hkb;done) | simp[bS]at h
   | cons l ks=>
    match ds,h,hr with
    | [],h,hr=>cases k<;>first | (cases hkb;done) | simp[bS]at h
    | d::ds,h,hr=>
     have h':(match packK Γ mm k d with
      | none=>none
      | some p=>match bS Γ mm (l::ks) ds bx with
       | none=>none
       | some q=>some (⟨(p.x,q.x),p.os++q.os,p.fz++q.fz,p.bx++q.bx⟩:Pk (k.El F×TL F (l::ks))))=some p:=by cases k<;>first | (cases hkb;done) | exact h
     obtain⟨v,vs',rfl,h1,h2⟩:=gO hr;split at h'
     ·cases h'
     ·rename_i p1 hp1;split at h'
      ·cases h'
      ·rename_i p2 hp2;cases h'
       obtain⟨k1,k2,k3⟩:=one hp1 hkb (hi.sub (λid hid=>by simp[hid])) h1
       obtain⟨pls',l1,l2,l3,l4⟩:=ih hp2 (hi.sub (λid hid=>by simp[hid])) h2 hb hc'
       refine⟨p1.os.map (plOf g)++pls',?_,?_,k2.append l3,?_⟩
       ·cases k<;>first | (cases hkb;done) | exact⟨v,vs',_,pls',rfl,rfl,k1,l1⟩
       ·show(plBlks ((p1.os++p2.os).map (plOf g))).Perm _;rw[nM,aw];refine(List.Perm.append_left _ l2).trans ?_;rw[← List.append_assoc,← List.append_assoc];exact List.Perm.append_right _ List.perm_append_comm
       ·intro id hid;rcases List.mem_append.1 hid with hid | hid
        ·exact k3 id hid
        ·exact l4 id hid
theorem tC:∀(l:List (Dat F)) (k x:Nat) (d:Dat F),look (params k l) x=some d→∃j,x=k+j∧l[j]? = some d
 | [],k,x,d,h=>by simp[params,look]at h
 | y::l,k,x,d,h=>by
  simp only[params,ar]at h;split at h
  ·rename_i hb;have:=Nat.eq_of_beq_eq_true hb;subst this;cases h;exact⟨0,rfl,rfl⟩
  ·obtain⟨j,h1,h2⟩:=tC l (k+1) x d h
   exact⟨j+1,by omega,by simpa using h2⟩
theorem bW:∀{ks:List Kd}{a:HL F ks}{c:Nat},(aK ks a c).length=(ks.filter Kd.isBox).length
 | [],_,_=>rfl
 | .v t ow::ks,a,c=>by simp only[aK];rw[bW];rfl
 | .box t ow::ks,a,c=>by simp only[aK,List.length_cons];rw[bW];rfl
 | .rp t::ks,a,c=>by simp only[aK];rw[bW];rfl
 | .fn k r::ks,a,c=>by simp only[aK];rw[bW];rfl
 | .rpp t::ks,a,c=>by simp only[aK];rw[bW];rfl
 | .pk k0 t::ks,a,c=>by simp only[aK];rw[bW];rfl
 | .ln t::ks,a,c=>by simp only[aK];rw[bW];rfl
 | .nb t ow::ks,a,c=>by simp only[aK];rw[bW];rfl
 | .row t arr::ks,a,c=>by simp only[aK,List.length_cons];rw[bW];rfl
theorem uI{imm:Nat→Prop}:∀{ks:List Kd}{a:HL F ks}{vs:List Value}{pls:List Pl} {bxs:List Pl},c_ P w imm ks a vs pls bxs→vs.length=ks.length
 | [],a,vs,pls,bxs,h=>by rw[h.1];rfl
 | k::ks,a,vs,pls,bxs,h=>by obtain⟨v,vs',p1,p2,b1,b2,rfl,_,_,_,h2⟩:=h;simp[uI h2]
theorem nA{α : Type}{x:Nat}:∀{l:List (Nat×α)} {y:α},look l x=some y→(x,y)∈l
 | [],y,h=>by simp[look]at h
 | (z,b)::l,y,h=>by
  rw[ar]at h;split at h
  ·rename_i hb;have:=Nat.eq_of_beq_eq_true hb;subst this;cases h;simp
  ·exact List.mem_cons_of_mem _ (nA h)
theorem yC{fn:Func}{a:Act}{vs:List Value}(h:(fn.results.toList.mapM (ud a.tmps)).run P w = .ok vs w):(results fn a.tmps).run P w = .ok (tupV vs) w:=by
 have hmap:(fn.results.mapM (ud a.tmps)).run P w = .ok ⟨vs⟩ w:=by rw[Array.mapM_eq_mapM_toList];simp[h]
 have hres:(results fn a.tmps).run P w = .ok (if h:(⟨vs⟩:Array Value).size=1 then(⟨vs⟩:Array Value)[0]else .tuple ⟨vs⟩) w:=by
  unfold results;rw[Sem.run_bind]
  have e:(λ(r:ResultVar)=>match r with | .tmp t=>(Pure.pure (a.tmps.getD t undef):Sem Value) | .cell x t=>do loadVar t (← asAddr (a.tmps.getD x undef)))=ud a.tmps:=by
   funext r
   cases r<;>rfl
  have e2:(fn.results.mapM (λ(r:ResultVar)=>match r with | .tmp t=>(Pure.pure (a.tmps.getD t undef):Sem Value) | .cell x t=>do loadVar t (← asAddr (a.tmps.getD x undef)))).run P w = .ok ⟨vs⟩ w:=by rw[e];exact hmap
  exact(congrArg (λr=>Result.andThen r _) e2)
 rw[hres]
 match vs with
 | [v]=>rfl
 | []=>rfl
 | v::x::vs=>
  rw[dif_neg]
  ·rfl
  ·simp
theorem rH{imm:Nat→Prop}:∀{ks:List Kd}{a:HL F ks}{vs:List Value}{pls:List Pl} {bxs:List Pl},ks.all Kd.noOwn=true→c_ P w imm ks a vs pls bxs→pls = []
 | [],a,vs,pls,bxs,_,h=>h.2.1
 | k::ks,a,vs,pls,bxs,hn,h=>by
  obtain⟨v,vs',p1,p2,b1,b2,rfl,rfl,rfl,h1,h2⟩:=h;simp only[List.all_cons,Bool.and_eq_true]at hn;rw[rH hn.2 h2,List.append_nil]
  cases k with
  | v t ow=>cases ow with
   | nil=>exact h1.1.nil_pls
   | cons=>cases hn.1
  | box=>cases hn.1
  | row=>cases hn.1
  | rp=>exact h1.1
  | fn=>exact h1.1
  | rpp=>exact h1.1
  | pk=>exact h1.1
  | ln=>exact h1.1
  | nb=>cases hn.1
theorem Bg{imm:Nat→Prop}:∀{ks:List Kd}{a:HL F ks}{vs:List Value}{pls:List Pl} {bxs:List Pl},c_ P w imm ks a vs pls bxs→∃L:Nat→Prop,(∀b,L b→b<w.heap.size)∧(ks.all (λk=>!k.isLn)=true→∀b,¬ L b)∧
  ∀{g:G},(∀b,L b→g.len b)→∀{ds:List (Dat F)},RepDs P g w ds vs→RepDs P g w (entL ks a ds) vs
 | [],a,vs,pls,bxs,h=>⟨λ_=>False,λ_ h=>h.elim,λ_ _ h=>h,λ_ _ h=>h⟩
 | k::ks,a,vs,pls,bxs,h=>by
  obtain⟨v,vs',p1,p2,b1,b2,rfl,rfl,rfl,h1,h2⟩:=h;obtain⟨L,l1,l2,l3⟩:=Bg h2
  have plain:k.isLn=false→(∀(a:HL F (k::ks)) (d:Dat F) (ds:List (Dat F)),entL (k::ks) a (d::ds)=d::entL ks a.2 ds)→∃L:Nat→Prop,(∀b,L b→b<w.heap.size)∧((k::ks).all (λk=>!k.isLn)=true→∀b,¬ L b)∧
    ∀{g:G},(∀b,L b→g.len b)→∀{ds:List (Dat F)},RepDs P g w ds (v::vs')→RepDs P g w (entL (k::ks) a ds) (v::vs'):=by
   intro hk he
   refine⟨L,l1,λhh=>l2 (by simpa[hk]using hh),λ{g} hg {ds} hr=>?_⟩
   match ds,hr with
   | [],hr=>exact absurd hr.1 (by simp)
   | d::ds,hr=>rw[he];have:=aL.1 hr;exact aL.2 ⟨this.1,l3 hg this.2⟩
  cases k with
  | v=>exact plain rfl λ_ _ _=>rfl
  | box=>exact plain rfl λ_ _ _=>rfl
  | row=>exact plain rfl λ_ _ _=>rfl
  | rp=>exact plain rfl λ_ _ _=>rfl
  | fn=>exact plain rfl λ_ _ _=>rfl
  | rpp=>exact plain rfl λ_ _ _=>rfl
  | pk=>exact plain rfl λ_ _ _=>rfl
  | nb=>exact plain rfl λ_ _ _=>rfl
  | ln t=>
   obtain⟨_,_,I,i1,i2⟩:=h1
   refine⟨λb=>I b∨L b,λb hb=>hb.elim (i1 b) (l1 b),λhh=>by simp[Kd.isLn]at hh,λ{g} hg {ds} hr=>?_⟩
   match ds,hr with
   | [],hr=>exact absurd hr.1 (by simp)
   | d::ds,hr=>
    have hrr:=aL.1 hr;refine aL.2 ⟨?_,l3 (λb hb=>hg b (.inr hb)) hrr.2⟩
    have cel:∀(d:ND F)(x:Value),RepI w I d x→RepC g w (if d.flat then .im d else .ln d) x:=by
     intro d x h;split
     ·rename_i hf;exact .im (h.flat hf)
     ·exact .ln (h.mono (λb hb=>.inr (hg b (.inl hb))) λ_ _=>rfl)
    have hrt:=uU i2;show RepD P g w (lnDat t a.1) v;unfold lnDat mkDat;generalize encT F t a.1=cs at hrt
    cases hs:t.isSt with
    | true=>
     rw[hs]at hrt
     cases hrt with
     | agg hl h=>
      rw[if_pos rfl]
      refine .agg (by rw[List.length_map];exact hl) λk c x a b=>?_
      rw[List.getElem?_map]at a;obtain⟨c0,h0,rfl⟩:=Option.map_eq_some_iff.1 a;exact cel c0 x (h k c0 x h0 b)
    | false=>
     rw[hs]at hrt
     cases hrt with
     | one h=>exact .c (cel _ _ h)
theorem JC (hT : TblOk P T) (hΓ : CtxOk P Γ) (hmix : P.follows .mixedOrders = true) {f : FuncId} {fn : Func} {sp : Spec F} {h : Hint} (hf : P.funcs[f]? = some fn) (hnm : (fn.name == "runtime.NumGoroutine") = false) (hbn : fn.body.isNone = false) (hlen : Nat.ble sp.ks.length fn.ntmps = true)
  (hrs:sp.rs.all (λk=>!k.isBox)=true) (hD:∀a r,sp.D a=some r→tFunc T Γ nv fn h sp.ks sp.rs a=some r):FnOk P f sp:=by
 refine⟨?_,?_⟩
 ·exact⟨fn,hf,hnm,hbn⟩
 intro a r hr imm w vs pls bxs hheld hpl himm;have hd:=hD a r hr;unfold tFunc at hd;split at hd
 ·cases hd
 ·rename_i body hbody;dsimp only at hd;obtain⟨hsafe,hd⟩:=aI hd;obtain⟨L,l1,l2,l3⟩:=Bg hheld
  let g0:G:=⟨(G.at0 0 pls imm).ids,imm,L⟩
  have hnm0:NmAt g0 0 pls:=λj pl hj=>AC (I:=imm) (pls:=pls) (c:=0) j pl hj;obtain⟨h1,h2,h3,h4⟩:=ze (g:=g0) (c:=0) hheld hnm0;have h1:=l3 (g:=g0) (λ_ h=>h) h1
  have hlen0:∀b,L b→¬ (b∈plBlks pls∨w.heap.size≤b)∧b<w.heap.size:=by
   intro b hb;refine⟨λho=>?_,l1 b hb⟩;rcases Bool.or_eq_true _ _▸hsafe with hs | hs
   ·exact l2 hs b hb
   ·rw[rH hs hheld]at ho;rcases ho with ho | ho
    ·simp[plBlks]at ho
    ·exact absurd (l1 b hb) (Nat.not_lt.2 ho)
  simp only[Nat.zero_add]at h3;refine calls_of_wp hf hbody ?_
  let own:Ow:=⟨λb=>b∈plBlks pls∨w.heap.size≤b,imm,(G.at0 0 pls imm).ids⟩
  have hvl:=uI hheld;have hlen':sp.ks.length≤fn.ntmps:=Nat.le_of_ble_eq_true hlen
  have hblk:∀{id:Nat}{B:Blk F}{b:Nat},look (unpHL sp.ks a 0).2.1 id=some B→g0.blk id b→∃b0 q,pls[id]? = some (some (b0,q))∧b∈b0::nbl q.2.2:=by rintro id B b _ ⟨b0,q,hq,hbb⟩;simp only[g0,G.at0]at hq;rw[if_pos (Nat.zero_le _),Nat.sub_zero]at hq;exact⟨b0,q,hq,hbb⟩
  have hgood:Good P own w fn.ntmps (⟨params 0 (entL sp.ks a (unpHL sp.ks a 0).1),(unpHL sp.ks a 0).2.1,(unpHL sp.ks a 0).2.2,[],[]⟩:TS F).st g0 { tmps:=(⟨vs⟩:Array Value)++Array.replicate (fn.ntmps - (⟨vs⟩:Array Value).size) undef,defers:=[] } w:=by
   refine⟨rfl,?_,?_,⟨?_,?_,?_,himm,λb hb=>.inl hb,hlen0⟩,?_,λ_ h=>h,⟨rfl,rfl,rfl,Nat.le_refl _,λb hb=>.inr hb,λ_ _ _=>rfl,Nat.le_refl _⟩,λ_ _ h=>h⟩
   ·simp[hvl];omega
   ·intro x d hx;obtain⟨j,rfl,hj⟩:=tC _ 0 x d hx
    have hlt:j<vs.length:=by rw[h1.1];exact(LQ.1 hj).1
    have:((⟨vs⟩:Array Value)++Array.replicate (fn.ntmps - (⟨vs⟩:Array Value).size) undef).getD (0+j) undef=vs[j]:=by
     rw[Nat.zero_add,Array.getD_eq_getD_getElem?,Array.getElem?_append_left (by simpa using hlt)]
     simp[hlt]
    rw[this];exact h1.2 j d _ hj (LP hlt)
   ·intro id B hB;obtain⟨j,_,_,_,q⟩:=h2 _ (nA hB);exact q
   ·intro id id' B B' b hB hB' _ _ hb hb';obtain⟨b0,q,hq,hx⟩:=hblk hB hb;obtain⟨b0',q',hq',hx'⟩:=hblk hB' hb';exact jC hpl.nodup hq hx hq' hx'
   ·intro id B b hB _ hb;obtain⟨b0,q,hq,hx⟩:=hblk hB hb;have:=bL.2 ⟨id,b0,q,hq,hx⟩;exact⟨.inl this,hpl.imm b this⟩
   ·intro id hid;simp only[TS.st,ba,decide_eq_false_iff_not,h3]at hid;simp only[g0,G.at0]
    rw[if_pos (Nat.zero_le _),Nat.sub_zero,List.getElem?_eq_none (by omega)]
  refine wp_mono (Ja hT hΓ hmix h body _ _ r hd _ _ _ hgood) ?_;rintro e a' w' ⟨k,s',g',rfl,k2,k3,k4⟩
  have key:bodyPost P fn (λe w'=>∃(rvs:List Value)(imm':Nat→Prop)(pls':List Pl),e = .returned (tupV rvs)∧
   w'.os=w.os∧w'.tape=w.tape∧w'.output=w.output∧w.drawn≤w'.drawn∧w.heap.size≤w'.heap.size∧(∀b,b<w.heap.size→b∉plBlks pls→w'.heap[b]? = w.heap[b]?)∧
   (∀b,imm b→imm' b)∧(∀b,imm' b→imm b∨b∈plBlks pls∨w.heap.size≤b)∧(∀b,imm' b→b<w'.heap.size)∧
   bC P w' imm' (outs sp) r rvs bxs pls'∧PlOk w' imm' (plBlks bxs++plBlks pls')∧∀b∈plBlks bxs++plBlks pls',b∈plBlks pls∨w.heap.size≤b) .ret a' w'∧(k=0∨k=1):=by
   have hk:(k=0∨k=1)∧packR T Γ fn sp.ks sp.rs a s'=some r:=by
    match k,k2 with
    | 0,k2=>exact⟨.inl rfl,k2⟩
    | 1,k2=>exact⟨.inr rfl,k2⟩
    | k+2,k2=>cases k2
   refine⟨?_,hk.1⟩;have k2:=hk.2;unfold packR at k2;split at k2
   ·cases k2
   ·rename_i rd hrd;split at k2
    ·cases k2
    ·rename_i p hp;obtain⟨hc,k2⟩:=aI k2;simp only[Bool.and_eq_true]at hc;cases k2;obtain⟨rvs,q1,q2⟩:=y9 hT k4 hrd
     have hbids:(aK sp.ks a 0).map g'.ids=bxs.map some:=by rw[← h4];refine List.map_congr_left λid hid=>?_;obtain⟨q,_,hq⟩:=kt h4 hid;rw[hq];exact k4.nam id _ hq
     have hcnt:((sp.rs++sp.ks.filter Kd.isBox).filter Kd.isBox).length=(aK sp.ks a 0).length:=by
      rw[bW,List.filter_append,List.filter_filter]
      have:sp.rs.filter Kd.isBox = []:=by rw[List.filter_eq_nil_iff];intro k hk;have:=List.all_eq_true.1 hrs k hk;simpa using this
      rw[this];simp
     obtain⟨pls',p1,p2,p3,p4⟩:=xM hΓ k4.mem (λ_ _ h=>h) hp (imm:=(g'.fzs p.fz).imm) ⟨λ_ h=>.inl h,λid hid b hb=>.inr ⟨id,hid,hb⟩⟩ q2 hbids hcnt;have hfr:=freeze k4.mem (λ_ _ h=>h) p3
     have hL:∀b∈plBlks bxs++plBlks pls',∃id B,some id∈p.os∧look s'.M id=some B∧B.owned=true∧g'.blk id b:=by intro b hb;obtain⟨id,r1,r2⟩:=bk.1 (p2.mem_iff.2 hb);obtain⟨B,r3,r4⟩:=p4 id r1;exact⟨id,B,r1,r3,r4,r2⟩
     refine⟨k4.dfr,tupV rvs,yC q1,rvs,(g'.fzs p.fz).imm,pls',rfl,k4.frm.os,k4.frm.tape,k4.frm.output,k4.frm.drawn,k4.frm.size,?_,λb hb=>.inl (k4.ini b hb),?_,hfr.imm,p1,⟨?_,?_,?_⟩,?_⟩
     ·intro b hb hno
      exact k4.frm.block b hb (λho=>ho.elim hno (λh=>by omega))
     ·intro b hb;exact hfr.io b hb
     ·exact p2.nodup_iff.1 (fw k4.mem (eb hc.1) p4)
     ·intro b hb;obtain⟨id,B,r1,r2,r3,r4⟩:=hL b hb;have hno:id∉p.fz:=lu hc.2 id (db.2 r1)
      exact(hfr.own id B b (by rw[gc,if_neg hno];exact r2) r3 r4).2
     ·intro b hb;obtain⟨id,B,r1,r2,r3,r4⟩:=hL b hb;exact(k4.mem.ok id B r2).place k4.mem.imm (Blk.noAls r3) r4
     ·intro b hb;obtain⟨id,B,r1,r2,r3,r4⟩:=hL b hb;exact(k4.mem.own id B b r2 r3 r4).1
  obtain⟨key,hk⟩:=key;rcases hk with rfl | rfl
  ·exact key
  ·exact key
end
set_option linter.unusedVariables false
set_option linter.unusedSimpArgs false
section
variable{F:Fam}
def zok1:ND F→Value→Bool
 | .i k n,.int k' m=>k == k'&&n == m
 | .b x,.bool y=>x == y
 | .s [],.string ⟨⟨[]⟩⟩=>true
 | .nl,.slice none 0 0=>true
 | .v (.pointer none),.pointer none=>true
 | .v (.map none),.map none=>true
 | _,_=>false
def zok:List (ND F)→List Value→Bool
 | [],[]=>true
 | d::l,x::r=>zok1 d x&&zok l r
 | _,_=>false
theorem I4{d:ND F}{x:Value}(h:zok1 d x=true)(w:World)(imm:Nat→Prop):RepI w imm d x:=by
 unfold zok1 at h;split at h
 ·simp only[Bool.and_eq_true,beq_iff_eq]at h;obtain⟨rfl,rfl⟩:=h;exact .i _ _
 ·simp only[beq_iff_eq]at h;subst h;exact .b _
 ·exact .s []
 ·exact .nl _
 ·exact .v _ rfl
 ·exact .v _ rfl
 ·cases h
theorem G2:∀{l:List (ND F)} {r:List Value},zok l r=true→l.length=r.length∧∀(w:World)(imm:Nat→Prop)(k:Nat)(d:ND F) (x:Value),l[k]? = some d→r[k]? = some x→RepI w imm d x
 | [],[],_=>by simp
 | d::l,x::r,h=>by
  simp only[zok,Bool.and_eq_true]at h;obtain⟨h1,h2⟩:=G2 h.2
  refine⟨by simp[h1],?_⟩
  intro w imm k d' x' a b
  cases k with
  | zero=>simp only[List.getElem?_cons_zero,Option.some.injEq]at a b;subst a b;exact I4 h.1 w imm
  | succ k=>exact h2 w imm k d' x' (by simpa using a) (by simpa using b)
 | [],_::_,h=>by cases h
 | _::_,[],h=>by cases h
def tyOk(i:TI F):Bool:=match i.ty with | some tt=>Nat.beq (szT F tt) i.size | none=>true
def eqOkB(P:Program)(t:TypeId)(i:TI F):Bool:=if i.eq then !(P.stoodInHeld t)&&!(P.eqGuardType P.depth t)else true
structure RowOk(P:Program)(t:TypeId)(i:TI F):Prop where
 und:P.underlying t=some i.desc
 info:∃j z,P.info? t=some j∧j.zero=some z∧(Nat.beq j.size i.size&&Nat.beq j.bytes i.bytes&&Nat.beq z.cells.size i.size&&zok i.zero z.cells.toList&&(aggV z == dl i.desc))=true
 ty:tyOk i=true
 eq:eqOkB P t i=true
theorem tblOk{P:Program}{tbl:List (Nat×TI F)}(h:∀p∈tbl,RowOk P p.1 p.2):TblOk P (look tbl):=by
 have mem:∀{t:Nat}{i:TI F},look tbl t=some i→RowOk P t i:=λht=>h _ (nA ht);refine⟨λt i ht=>(mem ht).und,?_,?_,?_,?_⟩
 ·intro t i ht;obtain⟨j,z,h1,h2,h3⟩:=(mem ht).info;simp only[Bool.and_eq_true]at h3;obtain⟨⟨⟨⟨k1,k2⟩,k3⟩,k4⟩,_⟩:=h3;have k1:=Nat.eq_of_beq_eq_true k1;have k2:=Nat.eq_of_beq_eq_true k2;have k3:=Nat.eq_of_beq_eq_true k3;obtain⟨l1,l2⟩:=G2 k4
  refine⟨j,h1,k1,k2,z,h2,k3,by rw[l1];simpa using k3,?_⟩
  intro w imm k d x a b
  exact l2 w imm k d x a (by simpa using b)
 ·intro t i ht he;have:=(mem ht).eq;simp only[eqOkB,he,if_true,Bool.and_eq_true,Bool.not_eq_true']at this;exact⟨this.1,this.2⟩
 ·intro t i tt ht he;have:=(mem ht).ty;simp only[tyOk,he]at this;exact Nat.eq_of_beq_eq_true this
 ·intro t i j z ht hj hz;obtain⟨j',z',h1,h2,h3⟩:=(mem ht).info;rw[hj]at h1;cases h1;rw[hz]at h2;cases h2;simp only[Bool.and_eq_true,beq_iff_eq]at h3;exact h3.2
theorem all_nil{P:Program}:∀p∈([]:List (Nat×TI F)),RowOk P p.1 p.2:=by simp
theorem all_cons{P:Program}{t:Nat}{i:TI F}{l:List (Nat×TI F)}(h:RowOk P t i)(k:∀p∈l,RowOk P p.1 p.2):∀p∈((t,i)::l),RowOk P p.1 p.2:=by
 intro p hp;rcases List.mem_cons.1 hp with rfl | hp
 ·exact h
 ·exact k p hp
theorem ae{P:Program}:CtxOk (F:=F) P []:=λ_ _ h=>by simp[look]at h
theorem ab{P:Program}{f:FuncId}{sp:Spec F}{Γ : Ctx F}(h:FnOk P f sp)(k:CtxOk P Γ):CtxOk P ((f,sp)::Γ):=by
 intro g s hg;rw[ar]at hg;split at hg
 ·rename_i hb;have:=Nat.eq_of_beq_eq_true hb;subst this;cases hg;exact h
 ·exact k g s hg
theorem fnOk {P : Program} {T : TypeId → Option (TI F)} {Γ : Ctx F} {nv : Nat} (hT : TblOk P T) (hmix : P.follows .mixedOrders = true) (hΓ : CtxOk P Γ) {f : FuncId} {fn : Func} {sp : Spec F} {h : Hint} (hf : P.funcs[f]? = some fn) (hnm : (fn.name == "runtime.NumGoroutine") = false) (hbn : fn.body.isNone = false) (hlen : Nat.ble sp.ks.length fn.ntmps = true)
  (hrs:sp.rs.all (λk=>!k.isBox)=true) (hD:(λa=>tFunc T Γ nv fn h sp.ks sp.rs a)=sp.D):FnOk P f sp:=
 JC hT hΓ hmix hf hnm hbn hlen hrs (λa r hr=>by rw[← hD]at hr;exact hr)
end
end Go.Fx
namespace Go.Fx
open Go Go.ChangeShapes Go.RowKit
set_option linter.unusedVariables false
set_option linter.unusedSimpArgs false
section
variable{F:Fam}
def A8(F:Fam):Ty→List Ty
 | .st n=>F.fs n
 | t=>[t]
mutual
inductive WfT(F:Fam):(t:Ty)→ET F t→Prop where
 | int {k:IntKind} {n:Int} (h:(Lit.int k n).wf=true):WfT F (.int k) n
 | bool (b:Bool):WfT F .bool b
 | str {l:List UInt8} (h:l.length≤maxLen):WfT F .str l
 | slice {t:Ty} {l:List (ET F t)} (hl:l.length≤maxLen) (h:∀x∈l,WfT F t x):WfT F (.slice t) l
 | st {n:Nat} {x:F.S n} (h:WfF F (F.fs n) (F.un n x)):WfT F (.st n) x
inductive WfF(F:Fam):(ts:List Ty)→TupT F ts→Prop where
 | nil (a:TupT F []):WfF F [] a
 | cons {t:Ty} {r:List Ty} {a:TupT F (t::r)} (h:WfT F t a.1) (k:WfF F r a.2):WfF F (t::r) a
end
def inH(W:World):Nat→Prop:=λb=>b<W.heap.size
def RdF(F:Fam)(W:World)(tys:List Ty)(cs:List Value):Prop:=
 ∃a:TupT F tys,cs.length=tys.length∧(∀(k:Nat)(d:ND F)(v:Value),(encF F tys a)[k]? = some d→cs[k]? = some v→RepI W (inH W) d v)∧WfF F tys a
theorem RdF.nil{W:World}:RdF F W [] []:=⟨(),rfl,by simp[encF],.nil _⟩
theorem RdF.cons{W:World}{t:Ty}{v:Value}{x:ET F t}{tys:List Ty}{cs:List Value}(hr:RepI W (inH W) (enc1 F t x) v)(hw:WfT F t x)(h:RdF F W tys cs):RdF F W (t::tys) (v::cs):=by
 obtain⟨a,h1,h2,h3⟩:=h
 refine⟨(x,a),by simp[h1],?_,.cons hw h3⟩
 intro k d u hd hu
 cases k with
 | zero=>simp only[encF,List.getElem?_cons_zero,Option.some.injEq]at hd hu;subst hd hu;exact hr
 | succ k=>exact h2 k d u (by simpa[encF]using hd) (by simpa using hu)
theorem RdF.one{W:World}{t:Ty}{v:Value}{x:ET F t}(hr:RepI W (inH W) (enc1 F t x) v)(hw:WfT F t x):RdF F W [t] [v]:=.cons hr hw .nil
theorem RdF.append{W:World}:∀{s t:List Ty}{cs ds:List Value},RdF F W s cs→RdF F W t ds→RdF F W (s++t) (cs++ds)
 | [],t,cs,ds,h,k=>by obtain⟨a,h1,_,_⟩:=h;have:cs = []:=List.eq_nil_of_length_eq_zero h1;subst this;exact k
 | x::s,t,cs,ds,h,k=>by
  obtain⟨a,h1,h2,h3⟩:=h
  match cs,h1 with
  | c::cs,h1=>
   cases h3 with
   | cons h3 h4=>
    exact .cons (h2 0 _ c rfl rfl) h3 (RdF.append ⟨a.2,by simpa using h1,λk d v hd hv=>h2 (k+1) d v (by simpa[encF]using hd) (by simpa using hv),h4⟩ k)
def RdT(F:Fam)(W:World)(t:Ty)(cs:List Value)(x:ET F t):Prop:=
 cs.length=szT F t∧(∀(k:Nat)(d:ND F)(v:Value),(encT F t x)[k]? = some d→cs[k]? = some v→RepI W (inH W) d v)∧WfT F t x
theorem RdF.toT{W:World}{t:Ty}{cs:List Value}(h:RdF F W (A8 F t) cs):∃x:ET F t,RdT F W t cs x:=by
 obtain⟨a,h1,h2,h3⟩:=h
 have st:∀{n:Nat}(a:TupT F (F.fs n)),cs.length=(F.fs n).length→(∀(k:Nat)(d:ND F)(v:Value),(encF F (F.fs n) a)[k]? = some d→cs[k]? = some v→RepI W (inH W) d v)→WfF F (F.fs n) a→∃x:ET F (.st n),RdT F W (.st n) cs x:=by
  intro n a k1 k2 k3
  exact⟨F.up n a,k1,by simpa only[encT,F.um]using k2,.st (by rw[F.um];exact k3)⟩
 have one:∀{t:Ty}(a:TupT F [t]),WfF F [t] a→WfT F t a.1:=by
  intro t a h
  cases h with
  | cons h _=>exact h
 cases t with
 | st n=>exact st a h1 h2 h3
 | int k=>exact⟨a.1,h1,h2,one a h3⟩
 | bool=>exact⟨a.1,h1,h2,one a h3⟩
 | str=>exact⟨a.1,h1,h2,one a h3⟩
 | slice t=>exact⟨a.1,h1,h2,one a h3⟩
def rdFs(rd:TypeId→List Ty→Bool)(sz:TypeId→Nat):List Field→Nat→List Ty→Bool
 | [],_,tys=>tys.isEmpty
 | f::fs,off,tys=>Nat.beq f.offset off&&Nat.ble (sz f.type) tys.length&&rd f.type (tys.take (sz f.type))&&rdFs rd sz fs (off+sz f.type) (tys.drop (sz f.type))
def rdAs(rd:List Ty→Bool)(sz:Nat):Nat→List Ty→Bool
 | 0,tys=>tys.isEmpty
 | n+1,tys=>Nat.ble sz tys.length&&rd (tys.take sz)&&rdAs rd sz n (tys.drop sz)
def rdB(F:Fam)(P:Program):Nat→TypeId→List Ty→Bool
 | 0,_,_=>false
 | f+1,t,tys=>match P.underlying t with
  | some (.int k)=>match tys with | [.int k']=>decide (k=k') | _=>false
  | some .bool=>match tys with | [.bool]=>true | _=>false
  | some .string=>match tys with | [.str]=>true | _=>false
  | some (.slice e)=>match tys with | [.slice tt]=>rdB F P f e (A8 F tt)&&Nat.beq (P.cellsOf e) (szT F tt)&&Nat.blt 0 (szT F tt) | _=>false
  | some (.struct fs)=>Nat.beq (P.cellsOf t) tys.length&&rdFs (rdB F P f) P.cellsOf fs.toList 0 tys
  | some (.array n e)=>Nat.beq (P.cellsOf t) tys.length&&rdAs (rdB F P f e) (P.cellsOf e) n tys
  | _=>false
variable{H:Type}{enc:TypeId×Value→H}{P:Program}{W:World}
theorem Au{a:Addr}{n:Nat}{cs:List Value}(h:W.cells? 0 a n=some cs):cs.length=n∧∀i,i<n→W.cell? (a.add i)=cs[i]?:=by
 unfold World.cells? at h;rw[if_pos (Nat.zero_le _)]at h
 exact⟨by simpa using mapM_some_length h,λi hi=>mapM_some_get h i i (by simp[hi])⟩
theorem EL{α : Type}{Q:Nat→α→Prop}:∀(n:Nat),(∀i,i<n→∃x,Q i x)→∃l:List α,l.length=n∧∀i x,l[i]? = some x→Q i x
 | 0,_=>⟨[],rfl,by simp⟩
 | n+1,h=>by
  obtain⟨l,h1,h2⟩:=EL n (λi hi=>h i (by omega))
  obtain⟨x,hx⟩:=h n (by omega)
  refine⟨l++[x],by simp[h1],λi y hy=>?_⟩
  by_cases hi:i<n
  ·rw[List.getElem?_append_left (by omega)]at hy;exact h2 i y hy
  ·rw[List.getElem?_append_right (by omega)]at hy
   have:i=n:=by have:=(LQ.1 hy).1;simp at this;omega
   subst this;rw[h1]at hy;simp at hy;subst hy;exact hx
theorem BQ{α : Type}{sz:Nat}(h0:0<sz):∀{es:List (List α)} (_:∀e∈es,e.length=sz) {k:Nat} {d:α} (_:es.flatten[k]? = some d),∃e,es[k / sz]? = some e∧e[k % sz]? = some d
 | [],_,k,d,h=>by simp at h
 | e::es,hs,k,d,h=>by
  have he:=hs e (by simp)
  rw[List.flatten_cons]at h;by_cases hk:k<sz
  ·rw[List.getElem?_append_left (by omega)]at h
   exact⟨e,by rw[Nat.div_eq_of_lt hk];rfl,by rw[Nat.mod_eq_of_lt hk];exact h⟩
  ·rw[List.getElem?_append_right (by omega),he]at h
   obtain⟨e',h1,h2⟩:=BQ h0 (λe he=>hs e (by simp[he])) h
   refine⟨e',?_,?_⟩
   ·rw[Nat.div_eq_sub_div h0 (by omega)];simpa using h1
   ·rw[Nat.mod_eq_sub_mod (by omega)];exact h2
theorem CN:∀(f:Nat){fuel:Nat}{t:TypeId}{tys:List Ty} {cs:List Value} {x:DataW H×List MemPlace},rdB F P f t tys=true→DataW.trod enc P W 0 (λ_=>true) true fuel t cs=some x→RdF F W tys cs
 | 0,fuel,t,tys,cs,x,hb,h=>by simp[rdB]at hb
 | f+1,fuel,t,tys,cs,x,hb,h=>by
  unfold rdB at hb;split at hb
  ·rename_i k ht;split at hb
   ·rename_i k'
    have hk:k=k':=by simpa using hb
    subst hk;obtain⟨n,rfl,_,hw⟩:=DataW.trod_int ht h;exact .one (t:=.int k) (.i k n) (.int hw)
   ·cases hb
  ·rename_i ht;split at hb
   ·obtain⟨b,rfl,_⟩:=DataW.trod_bool ht h;exact .one (t:=.bool) (.b b) (.bool b)
   ·cases hb
  ·rename_i ht;split at hb
   ·obtain⟨s,rfl,_,hl⟩:=DataW.trod_string ht h;refine .one (t:=.str) (x:=s.data.toList) (v:=.string s) ?_ (.str ?_)
    ·have:=RepI.s (F:=F) (w:=W) (imm:=inH W) s.data.toList;exact this
    ·exact hl
   ·cases hb
  ·rename_i e ht;split at hb
   ·rename_i tt;simp only[Bool.and_eq_true]at hb;obtain⟨⟨hb1,hb2⟩,hb3⟩:=hb;have hsz:=Nat.eq_of_beq_eq_true hb2;have hpos:0<szT F tt:=Nat.blt_eq.mp hb3;rcases DataW.trod_slice ht h with⟨rfl,_⟩ | ⟨a,len,cap,elems,rest,n,_,rfl,_,_,hlc,hcm,hel,h1,h2,_⟩
    ·exact .one (t:=.slice tt) (x:=[]) (.sl0 tt none) (.slice (by simp) (by simp))
    ·
     have hall:∀i,i<len→∃x:ET F tt,∃cs,W.cells? 0 (a.add (i*szT F tt)) (szT F tt)=some cs∧RdT F W tt cs x:=by
      intro i hi;have hbind:=h1 i hi
      have hlt:i<elems.length:=by omega
      rw[LP hlt,hsz,Option.bind_eq_some_iff]at hbind;obtain⟨cs,hcs,htr⟩:=hbind;obtain⟨x,hx⟩:=(CN f hb1 htr).toT;exact⟨x,cs,hcs,hx⟩
     by_cases hcap:cap=0
     ·subst hcap
      have:len=0:=by omega
      subst this
      exact .one (t:=.slice tt) (x:=[]) (.sl0 tt (some a)) (.slice (by simp) (by simp))
     ·
      have hfirst:∃cs,W.cells? 0 a (szT F tt)=some cs:=by
       have e0:a.add (0*szT F tt)=a:=by simp[Addr.add]
       by_cases hl0:0<len
       ·obtain⟨_,cs,hcs,_⟩:=hall 0 hl0;rw[e0]at hcs;exact⟨cs,hcs⟩
       ·have hl0:len=0:=by omega
        subst hl0;obtain⟨hr1,hr2⟩:=h2 rfl
        have hbind:=hr2 0 (by omega)
        have hlt:0<rest.length:=by omega
        rw[LP hlt,hsz,Option.bind_eq_some_iff]at hbind;obtain⟨cs,hcs,_⟩:=hbind;simp only[Nat.zero_add]at hcs;rw[e0]at hcs;exact⟨cs,hcs⟩
      obtain⟨cs0,hcs0⟩:=hfirst;obtain⟨hlen0,hget0⟩:=Au hcs0;have hc0:=hget0 0 hpos
      have e1:a.add 0=a:=by simp[Addr.add]
      rw[e1,LP (by omega)]at hc0
      have hblk:a.block<W.heap.size∧a.spot=none:=by
       unfold World.cell? at hc0;split at hc0
       ·rename_i hh;refine⟨(Array.getElem?_eq_some_iff.1 hh).1,?_⟩
        cases hs:a.spot with
        | none=>rfl
        | some s=>rw[hs]at hc0;simp at hc0
       ·cases hc0
      obtain⟨b,o,sp⟩:=a;obtain⟨hb0,hs0⟩:=hblk;simp only at hb0 hs0;subst hs0
      have hadd:∀o i,(⟨b,o,none⟩:Addr).add i=⟨b,o+i,none⟩:=by
       intro o i;unfold Addr.add;split
       ·rename_i h0;rw[h0];rfl
       ·rfl
      obtain⟨l,hl,hq⟩:=EL len hall
      have hcell:∀k d,(cells F tt l)[k]? = some d→∃v,W.cell? ⟨b,o+k,none⟩=some v∧RepI W (inH W) d v:=by
       intro k d hk
       obtain⟨e',q1,q2⟩:=BQ hpos (sz:=szT F tt) (es:=l.map (encT F tt)) (by intro e he;obtain⟨x,_,rfl⟩:=List.mem_map.1 he;exact aN F tt x) hk
       rw[List.getElem?_map,Option.map_eq_some_iff]at q1;obtain⟨x,q3,rfl⟩:=q1;obtain⟨cs,q4,q5,q6,_⟩:=hq _ x q3;obtain⟨q7,q8⟩:=Au q4;have hmod:=Nat.mod_lt k hpos;have hc:=q8 (k % szT F tt) hmod
       rw[hadd,hadd,LP (by omega),Nat.add_assoc,Nat.mul_comm,Nat.div_add_mod]at hc
       exact⟨_,hc,q6 _ d _ q2 (LP (by omega))⟩
      refine .one (t:=.slice tt) (x:=l) ?_ (.slice (by rw[hl];omega) ?_)
      ·have:=RepI.sl (F:=F) (w:=W) (imm:=inH W) tt l b o cap (λk=>(W.cell? ⟨b,o+k,none⟩).getD undef) hb0 (by rw[hl];exact hlc) hcm
        (λk d hk=>by obtain⟨v,k1,k2⟩:=hcell k d hk;rw[k1];rfl) (λk d hk=>by obtain⟨v,k1,k2⟩:=hcell k d hk;rw[k1];exact k2)
       rw[hl]at this;exact this
      ·intro x hx;obtain⟨i,hi,rfl⟩:=List.mem_iff_getElem.1 hx;obtain⟨_,_,_,_,hw⟩:=hq i _ (LP hi);exact hw
   ·cases hb
  ·rename_i fs ht;simp only[Bool.and_eq_true]at hb;have hlen:=Nat.eq_of_beq_eq_true hb.1;obtain⟨xs,n,_,_,hcl,hxl,hget⟩:=DataW.trod_struct ht h
   have key:∀(l:List Field)(i off:Nat)(tys:List Ty)(cs':List Value),cs'=cs.drop off→cs'.length=tys.length→rdFs (rdB F P f) P.cellsOf l off tys=true→(∀j f,l[j]? = some f→fs[i+j]? = some f)→RdF F W tys cs':=by
    intro l
    induction l with
    | nil=>
     intro i off tys cs' hcs hl hr _
     have:tys = []:=by simpa[rdFs]using hr
     subst this;have:cs' = []:=List.eq_nil_of_length_eq_zero hl;subst this;exact .nil
    | cons fl l ih=>
     intro i off tys cs' hcs hl hr hfs;simp only[rdFs,Bool.and_eq_true]at hr;obtain⟨⟨⟨r1,r2⟩,r3⟩,r4⟩:=hr;have r1:=Nat.eq_of_beq_eq_true r1;have r2:=Nat.le_of_ble_eq_true r2
     have hf:=hget i fl (by simpa using hfs 0 fl rfl)
     have hlt:i<xs.length:=by
      rw[hxl]
      exact(Array.getElem?_eq_some_iff.1 (by simpa using hfs 0 fl rfl)).1
     rw[LP hlt,r1,← hcs]at hf;have h1:=CN f r3 hf
     have h2:=ih (i+1) (off+P.cellsOf fl.type) (tys.drop (P.cellsOf fl.type)) (cs'.drop (P.cellsOf fl.type)) (by rw[hcs,List.drop_drop]) (by simp[hl]) r4 (λj f' hj=>by have:=hfs (j+1) f' (by simpa using hj);rwa [show i+1+j=i+(j+1)by omega])
     have:=h1.append h2
     rwa [List.take_append_drop,List.take_append_drop]at this
   exact key fs.toList 0 0 tys cs (by simp) (by rw[hcl,hlen]) hb.2 (λj f hj=>by simpa using hj)
  ·rename_i n e ht;simp only[Bool.and_eq_true]at hb;have hlen:=Nat.eq_of_beq_eq_true hb.1;obtain⟨xs,n',_,_,hcl,hxl,hget⟩:=DataW.trod_array ht h
   have key:∀(m i:Nat)(tys:List Ty)(cs':List Value),cs'=cs.drop (i*P.cellsOf e)→cs'.length=tys.length→i+m=n→rdAs (rdB F P f e) (P.cellsOf e) m tys=true→RdF F W tys cs':=by
    intro m
    induction m with
    | zero=>
     intro i tys cs' hcs hl hn hr
     have:tys = []:=by simpa[rdAs]using hr
     subst this;have:cs' = []:=List.eq_nil_of_length_eq_zero hl;subst this;exact .nil
    | succ m ih=>
     intro i tys cs' hcs hl hn hr;simp only[rdAs,Bool.and_eq_true]at hr;obtain⟨⟨r1,r2⟩,r3⟩:=hr
     have hf:=hget i (by omega)
     have hlt:i<xs.length:=by omega
     rw[LP hlt,← hcs]at hf;have h1:=CN f r2 hf
     have h2:=ih (i+1) (tys.drop (P.cellsOf e)) (cs'.drop (P.cellsOf e)) (by rw[hcs,List.drop_drop,Nat.succ_mul]) (by simp[hl]) (by omega) r3
     have:=h1.append h2
     rwa [List.take_append_drop,List.take_append_drop]at this
   exact key n 0 tys cs (by simp) (by rw[hcl,hlen]) (by omega) hb.2
  ·cases hb
end
end Go.Fx
namespace Go.Fx
open Go Go.ChangeShapes Go.RowKit
set_option linter.unusedVariables false
set_option linter.unusedSimpArgs false
section
variable{F:Fam}{H:Type}{enc:TypeId×Value→H}{P:Program}{W:World}
def argB(F:Fam)(P:Program)(t:TypeId)(tt:Ty):Bool:=
 rdB F P 64 t (A8 F tt)&&(match P.underlying t with
  | some (.struct _) | some (.array _ _)=>tt.isSt
  | some (.int _) | some .bool | some .string | some (.slice _)=>!tt.isSt
  | _=>false)
theorem FQ{r:Reach}{b0:Nat}{t:TypeId}{tt:Ty}{v:Value}{d:DataW H}{ps:List MemPlace}(hb:argB F P t tt=true)(hval:Value.okWide P W r b0 t v)(hd:DataW.Trod enc P W 0 (λ_=>true) true t v d ps) :
  ∃x:ET F tt,WfT F tt x∧HeldV W (inH W) tt [] x v []:=by
 simp only[argB,Bool.and_eq_true]at hb;obtain⟨hb,hk⟩:=hb;obtain⟨fuel,hf⟩:=hd;obtain⟨x,h1,h2,h3⟩:=(CN 64 hb hf).toT;refine⟨x,h3,DS ?_⟩
 have agg:(∃cs,v = .agg cs)→tt.isSt=true→RepT W (inH W) (encT F tt x,tt.isSt) v:=by rintro⟨⟨cs⟩,rfl⟩ hs;rw[hs];refine .agg ?_ (λk c y a b=>h2 k c y a b);rw[aN];exact h1
 have one:v.cells = #[v]→tt.isSt=false→RepT W (inH W) (encT F tt x,tt.isSt) v:=by
  intro hv hs;rw[hs]
  have hl:∃d,encT F tt x = [d]:=by cases tt<;>first | exact⟨_,rfl⟩ | cases hs
  obtain⟨d,hd⟩:=hl;rw[hd]
  exact .one (h2 0 d v (by rw[hd];rfl) (by rw[hv];rfl))
 unfold Value.okWide at hval;split at hk
 ·rename_i fs ht;rw[ht]at hval;obtain⟨cs,rfl,_⟩:=hval;exact agg ⟨cs,rfl⟩ hk
 ·rename_i n e ht;rw[ht]at hval;obtain⟨cs,rfl,_⟩:=hval;exact agg ⟨cs,rfl⟩ hk
 ·rename_i k ht;simp only[ht,Cell.okWide,Cell.ok]at hval
  refine one ?_ (by simpa using hk)
  cases v<;>first | rfl | exact hval.elim
 ·rename_i ht;simp only[ht,Cell.okWide,Cell.ok]at hval
  refine one ?_ (by simpa using hk)
  cases v<;>first | rfl | exact hval.elim
 ·rename_i ht;simp only[ht,Cell.okWide,Cell.ok]at hval
  refine one ?_ (by simpa using hk)
  cases v<;>first | rfl | exact hval.elim
 ·rename_i e ht;simp only[ht,Cell.okWide,Cell.ok]at hval
  refine one ?_ (by simpa using hk)
  cases v<;>first | rfl | exact hval.elim
 ·cases hk
theorem vI(hl:laidOutB P=true){W':World}{sp:Nat→Bool}(hb:Below W.heap.size W W'):∀{ts:List TypeId}{vs:List Value}{ds:List (DataW H)} {ps:List MemPlace},
  DataW.TrodAll enc P W 0 (λ_=>true) true ts vs ds ps→(ts.all λt=>P.readableRec t&&Nat.blt t P.types.size)=true→(∀x∈ps,x.block<W.heap.size)→(∀x∈ps,sp x.block=true)→
  DataW.TrodAll enc P W' 0 sp true ts vs ds ps
 | [],vs,ds,ps,h,_,_,_=>by obtain⟨rfl,rfl,rfl⟩:=trodAll_nil h;rfl
 | t::ts,vs,ds,ps,h,hr,hlt,hsp=>by
  obtain⟨v,vs1,d,ds1,a,b,rfl,rfl,rfl,h1,h2⟩:=trodAll_cons h;simp only[List.all_cons,Bool.and_eq_true]at hr
  refine trodAll_cons_mk (WideElems.Trod_stays hl hr.1.1 (by simpa using hr.1.2) h1 (λx hx=>hb.same (hlt x (by simp[hx]))) (λx hx=>hsp x (by simp[hx]))) (vI hl hb h2 hr.2 (λx hx=>hlt x (by simp[hx])) (λx hx=>hsp x (by simp[hx])))
theorem Iq{fid:FuncId}{f:Func}{s:ChangeSpec}{tb:TypeId}{args:Array Value}{ds gs:List (DataW H)}{before:List MemPlace}
  (hl:laidOutB P=true) (hr:(f.params.toList.all λt=>P.readableRec t&&Nat.blt t P.types.size)=true) (hv:s.vars = []) (ht:f.resultTypes = #[tb]) (htb:P.underlying tb=some .bool)
  (hW:DataW.Whole enc P f.params.toList s.vars false W args.toList ds gs before) (hfn:s.fn H (ds++gs) = { results:=[.lit (.bool true)],args:=ds })
  (h:Calls P fid args W λe w'=>e = .returned (.bool true)∧Below W.heap.size W w') :
  Calls P fid args W λe W'=>∃v,e = .returned v∧s.post enc P f false true false false W args v W':=by
 have hW':=hW;obtain⟨p,q,hA,hV,rfl,hfz,hnd⟩:=hW;rw[hv]at hV;obtain⟨rfl,rfl⟩:=trodVars_none hV;refine h.mono λe W' ⟨he,hg⟩=>?_;subst he
 have hlt:∀x∈p,x.block<W.heap.size:=λx hx=>by simpa using hW'.lt x (by simp[hx])
 have args:∀sp:Nat→Bool,(∀x∈p,sp x.block=true)→DataW.TrodAll enc P W' 0 sp true f.params.toList args.toList (s.fn H (ds++[])).args p:=by intro sp hsp;rw[hfn];exact vI hl hg hA hr hlt hsp
 have vars:∀sp:Nat→Bool,DataW.TrodVars enc P W' sp s.vars (s.fn H (ds++[])).vars []:=by intro sp;rw[hfn,hv];rfl
 have res:∀(b:Nat)(sp:Nat→Bool)(hd:Bool),DataW.TrodAll enc P W' b sp hd f.resultTypes.toList ((Value.bool true).resultList f.resultTypes.size) (s.fn H (ds++[])).results []:=by intro b sp hd;rw[hfn,ht];exact trodAll_cons_mk (shut_bool htb true) trodAll_mk0
 refine⟨_,rfl,ds,[],p++[],[],p,[],hW',res _ _ _,args _ (λx hx=>by simpa using hlt x hx),vars _,hg.frame _,λ_=>?_⟩
 refine⟨ok_one ht rfl (okWide_bool_mk htb _),_,_,([]++p)++[],⟨[]++p,[],trodAll_append (args _ (λ_ _=>rfl)) (res _ _ _),vars _,rfl,?_,λh=>by cases h⟩,?_⟩
 ·intro b off hp
  rw[hg.frozen (hlt _ (by simpa using hp))]
  exact hfz b off (by simpa using hp)
 ·intro x hx _;simpa using hx
theorem Ii:c_ (F:=F) P W (inH W) [] () [] [] []:=⟨rfl,rfl,rfl⟩
theorem xD{t:Ty}{x:ET F t}{v:Value}{ks:List Kd}{a:HL F ks}{vs:List Value}(h:HeldV W (inH W) t [] x v [])(k:c_ P W (inH W) ks a vs [] []):c_ P W (inH W) (.v t []::ks) (x,a) (v::vs) [] []:=
 ⟨v,vs,[],[],[],[],rfl,rfl,rfl,⟨h,rfl⟩,k⟩
theorem Ft{fid:FuncId}{sp:Spec F}(hf:FnOk P fid sp){D:HL F sp.ks→Option Bool}(hD:cR sp .bool=some D){a:HL F sp.ks}(hd:D a=some true){vs:List Value}(hh:c_ P W (inH W) sp.ks a vs [] []) :
  Calls P fid ⟨vs⟩ W λe w'=>e = .returned (.bool true)∧Below W.heap.size W w':=by
 obtain⟨r',hr',hout⟩:=B4 (P:=P) hD hd
 refine(hf.2 a r' hr' (inH W) W vs [] [] hh ⟨by simp[plBlks],by simp[plBlks],by simp[plBlks]⟩ (λ_ h=>h)).mono ?_
 rintro e w' ⟨rvs,imm',pls',rfl,h1,h2,h3,hdr,h4,h5,h6,h7,h8,h9,h10,h11⟩;obtain⟨v,rfl,_,hv⟩:=hout w' imm' rvs [] pls' h9;have hn:=hv.nil_pls;subst hn;have hrep:=uU hv
 have:v = .bool true:=by
  generalize hc:(encT F Ty.bool true,Ty.bool.isSt)=p at hrep
  cases hrep with
  | one h=>cases hc;cases h;rfl
  | agg=>cases hc
 exact⟨by rw[this];rfl,⟨h1,h2,h3,h4,λb hb=>h5 b hb (by simp[plBlks])⟩⟩
end
set_option linter.unusedVariables false
set_option linter.unusedSimpArgs false
section
variable{F:Fam}{P:Program}
theorem HT{w:World}{imm:Nat→Prop}{t:Ty}{v:Value}(h:RepI (F:=F) w imm (.sl t []) v):∃p cap,v = .slice p 0 cap:=by
 cases h with
 | sl0 p=>exact⟨_,_,rfl⟩
 | sl l b o cap f=>exact⟨_,_,rfl⟩
theorem oE{t e:TypeId}(h:P.underlying t=some (.slice e))(w:World)(a:Option Addr)(n c n2 c2:Nat):(binOp .eql t (.slice a n c) (.slice none n2 c2)).run P w = .ok (.bool a.isNone) w:=Lib.run_eql_slice_nil w _ _ a n c n2 c2 h
theorem fL{f:FuncId}{t:Ty}{b:Nat}
  (h:FnOk (F:=F) P f ⟨[.v (.slice t) []],[.v (.slice t) [0]],λa=>cond a.1.isEmpty none ((app b [] a.1).bind λl=>some l)⟩)
  (hn:∀(p:Option Addr)(cap:Nat)(w:World),Calls P f ⟨[.slice p 0 cap]⟩ w λe w'=>∃p',e = .returned (.slice p' 0 0)∧RowKit.Below w.heap.size w w'∧w.drawn≤w'.drawn) (hmp:t.isMp=false:=by rfl) :
  FnOk (F:=F) P f ⟨[.v (.slice t) []],[.v (.slice t) [0]],λa=>app b [] a.1⟩:=by
 refine⟨h.1,?_⟩;intro a r hr imm w vs pls bxs hheld hpl himm;obtain⟨l,u⟩:=a
 cases l with
 | cons x l=>refine h.2 (x::l,u) r ?_ imm w vs pls bxs hheld hpl himm;dsimp only at hr ⊢;rw[hr];rfl
 | nil=>
  have hr':r=([]:List (ET F t)):=by
   dsimp only[app]at hr;split at hr
   ·exact(Option.some.inj hr).symm
   ·cases hr
  subst hr';obtain⟨v,vs',p1,p2,b1,b2,rfl,rfl,rfl,⟨h1,rfl⟩,rfl,rfl,rfl⟩:=hheld;unfold HeldV at h1;simp only[Ty.isSt,Bool.false_eq_true,if_false,encT,HeldC,memN]at h1;obtain⟨h1,rfl⟩:=h1;obtain⟨p,cap,rfl⟩:=HT h1;refine(hn p cap w).mono ?_;rintro e w' ⟨p',rfl,hb,hdr⟩
  refine⟨[.slice p' 0 0],imm,[none],rfl,hb.os,hb.tape,hb.output,hdr,hb.size,λk hk _=>hb.block k hk,λ_ h=>h,λ_ h=>.inl h,λk hk=>Nat.lt_of_lt_of_le (himm k hk) hb.size,?_,⟨by simp[plBlks],by simp[plBlks],by simp[plBlks]⟩,by simp[plBlks]⟩
  refine⟨.slice p' 0 0,rfl,rfl,?_,rfl⟩;unfold HeldV;simp only[Ty.isSt,Bool.false_eq_true,if_false,encT,HeldC,memN,Nat.beq,if_true]
  exact⟨none,[],rfl,by rw[dD hmp];rfl,by rw[gE hmp];exact⟨p',rfl⟩,rfl⟩
end
end Go.Fx
